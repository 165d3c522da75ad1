/- Texts for the laws of package recall, part 5: contracts of the program's functions, each for every input that its words name. -/
import Derived.Test.YtfcnombmphophaaH4
import Derived.Test.YtfcnombmphophaaH3
import Derived.OpenShut
import Derived.ChangeBook
import Derived.ChangeStays
import Derived.Deep.Frames

set_option linter.unusedVariables false
set_option maxRecDepth 10000

namespace Go.Proofs.Ytfcnombmphophaa
open Go.RowKit Go.Shelf
theorem sl25 {b o n c k : Nat} (h : k ≤ c) (w : World) : (Instr.sliceAt 25 (.slice (some ⟨b, o, none⟩) n c) none (some (.int .i64 k)) none).run Try.prog w = .ok (.slice (some ⟨b, o, none⟩) k c) w := by
  go_simp
theorem OpW.sliceH {P : Program} {p : Value → World → Prop} {d : Nat} {a : Act} {w : World} {ty : TypeId} {pos : String} {aft : Array Edge} {gd : Option (Nat × Bool)} {t : TypeId} {x y : Operand} {u u' v : Value} (hx : a.eval x = u) (hy : a.eval y = u') (hv : (Instr.sliceAt t u none (some u') none).run P w = .ok v w) (hp : p v w) :
    OpW P p ⟨some d, .slice t x none (some y) none, ty, pos, aft, gd⟩ d a w := OpW.val rfl (by simp [execOp, hx, hy, hv]) hp (Below.refl _ _)
/-- Is an order, from some place on, one of a truth? -/
def isGo (t : Int) (l : List Sale) (dys : List Int) : List Int → List Int → Int → Bool
  | _, [], _ => true
  | pre, n :: ns, la => inR n 0 ((l.length : Int) - 1) && (mayR t l pre la n ((dys[n.toNat]?).getD 0) && isGo t l dys (pre ++ [n]) ns ((dys[n.toNat]?).getD 0))
def truthB (t : Int) (l : List Sale) (ord dys : List Int) : Bool := decide (ord.length = l.length) && (decide (dys.length = l.length) && isGo t l dys [] ord 0)
theorem isGo_step {t : Int} {l : List Sale} {dys ord : List Int} {la : Int} {k : Nat} (hk : k < ord.length) :
    isGo t l dys (ord.take k) (ord.drop k) la = (inR ord[k] 0 ((l.length : Int) - 1) && (mayR t l (ord.take k) la ord[k] ((dys[(ord[k]).toNat]?).getD 0) && isGo t l dys (ord.take (k + 1)) (ord.drop (k + 1)) ((dys[(ord[k]).toNat]?).getD 0))) := by
  rw [List.drop_eq_getElem_cons hk, isGo, List.take_succ_eq_append_getElem hk]
theorem IntsAt.take {w : World} {B : Nat} {A : Option Addr} {l : List Int} (h : IntsAt w B A l) (k : Nat) : IntsAt w B A (l.take k) := by
  intro j x hj
  rw [List.getElem?_take] at hj
  split at hj
  · exact h j x hj
  · cases hj
noncomputable def opsTr_0 : Array Oper := (Try.f22.body.bind (regionOf 0)).getD #[]
noncomputable def opsTr_1 : Array Oper := (Try.f22.body.bind (regionOf 1)).getD #[]
noncomputable def opsTr_2 : Array Oper := (Try.f22.body.bind (regionOf 2)).getD #[]
noncomputable def opsTr_3 : Array Oper := (Try.f22.body.bind (regionOf 3)).getD #[]
noncomputable def opsTr_4 : Array Oper := (Try.f22.body.bind (regionOf 4)).getD #[]
noncomputable def opsTr_5 : Array Oper := (Try.f22.body.bind (regionOf 5)).getD #[]
noncomputable def opsTr_6 : Array Oper := (Try.f22.body.bind (regionOf 6)).getD #[]
noncomputable def opsTr_8 : Array Oper := (Try.f22.body.bind (regionOf 8)).getD #[]
noncomputable def opsTr_9 : Array Oper := (Try.f22.body.bind (regionOf 9)).getD #[]
noncomputable def opsTr_10 : Array Oper := (Try.f22.body.bind (regionOf 10)).getD #[]
noncomputable def opsTr0 : Array Oper := (Try.f22.body.bind (regionOf 7)).getD #[]
def wordsTr0 (b1 o1 b3 k : Nat) (A A2 : Option Addr) (nl c n1 c1 n2 c2 : Nat) (o t la nn : Int) : Words := [fun v _ => v = .slice (some ⟨b1, o1, none⟩) n1 c1, fun v _ => v = .int .i64 k, fun v _ => v = .pointer (some ⟨b1, o1 + k, none⟩), fun v _ => v = .int .i64 nn, fun v _ => v = .pointer (some ⟨b3, 2, none⟩), fun v _ => v = .slice A nl c, fun v _ => v = .int .i64 nl, fun v _ => v = .int .i64 (nl - 1), fun v _ => v = .bool false, fun v _ => v = .bool true, fun v _ => v = .bool true, fun _ _ => True, fun _ _ => True, fun _ _ => True, fun _ _ => True, fun _ _ => True, fun _ _ => True, fun _ _ => True, fun _ _ => True, fun _ _ => True, fun _ _ => True, fun _ _ => True, fun _ _ => True, fun _ _ => True, fun _ _ => True, fun _ _ => True, fun _ _ => True, fun _ _ => True, fun _ _ => True, fun v _ => v = .bool true]
theorem okTr0_0 {b1 o1 b3 k : Nat} {A A2 : Option Addr} {nl c n1 c1 n2 c2 : Nat} {o t la nn : Int} {a : Act} {w : World} (t1 : a.eval (.tmp 1) = .slice (some ⟨b1, o1, none⟩) n1 c1) (t2 : a.eval (.tmp 2) = .slice A2 n2 c2) (t3 : a.eval (.tmp 3) = .pointer (some ⟨b3, 0, none⟩)) (t7 : a.eval (.tmp 7) = .int .i64 la) (t8 : a.eval (.tmp 8) = .int .i64 k) (q0 : w.cell? ⟨b3, 0, none⟩ = some (.int .i64 o)) (q1 : w.cell? ⟨b3, 1, none⟩ = some (.int .i64 t)) (q2 : w.cell? ⟨b3, 2, none⟩ = some (.slice A nl c)) (hnl : nl ≤ 12) (hk : k < n1) (m0 : w.cell? ⟨b1, o1 + k, none⟩ = some (.int .i64 nn)) (hi' : CV w 31 #[.int .i64 nn, .int .i64 0, .int .i64 (nl - 1)] (.bool false)) : OpOk Try.prog opsTr0 (wordsTr0 b1 o1 b3 k A A2 nl c n1 c1 n2 c2 o t la nn) 66 a w 0 := by
  refine OpOk.gen rfl (fun a1 w1 H => ?_)
  have e1 : a1.eval (.tmp 1) = .slice (some ⟨b1, o1, none⟩) n1 c1 := (H.out 1 (by kernel_rfl)).trans t1
  refine gd_none ?_
  exact OpW.move e1 rfl
theorem okTr0_1 {b1 o1 b3 k : Nat} {A A2 : Option Addr} {nl c n1 c1 n2 c2 : Nat} {o t la nn : Int} {a : Act} {w : World} (t1 : a.eval (.tmp 1) = .slice (some ⟨b1, o1, none⟩) n1 c1) (t2 : a.eval (.tmp 2) = .slice A2 n2 c2) (t3 : a.eval (.tmp 3) = .pointer (some ⟨b3, 0, none⟩)) (t7 : a.eval (.tmp 7) = .int .i64 la) (t8 : a.eval (.tmp 8) = .int .i64 k) (q0 : w.cell? ⟨b3, 0, none⟩ = some (.int .i64 o)) (q1 : w.cell? ⟨b3, 1, none⟩ = some (.int .i64 t)) (q2 : w.cell? ⟨b3, 2, none⟩ = some (.slice A nl c)) (hnl : nl ≤ 12) (hk : k < n1) (m0 : w.cell? ⟨b1, o1 + k, none⟩ = some (.int .i64 nn)) (hi' : CV w 31 #[.int .i64 nn, .int .i64 0, .int .i64 (nl - 1)] (.bool false)) : OpOk Try.prog opsTr0 (wordsTr0 b1 o1 b3 k A A2 nl c n1 c1 n2 c2 o t la nn) 66 a w 1 := by
  refine OpOk.gen rfl (fun a1 w1 H => ?_)
  have e8 : a1.eval (.tmp 8) = .int .i64 k := (H.out 8 (by kernel_rfl)).trans t8
  refine gd_none ?_
  exact OpW.move e8 rfl
theorem okTr0_2 {b1 o1 b3 k : Nat} {A A2 : Option Addr} {nl c n1 c1 n2 c2 : Nat} {o t la nn : Int} {a : Act} {w : World} (t1 : a.eval (.tmp 1) = .slice (some ⟨b1, o1, none⟩) n1 c1) (t2 : a.eval (.tmp 2) = .slice A2 n2 c2) (t3 : a.eval (.tmp 3) = .pointer (some ⟨b3, 0, none⟩)) (t7 : a.eval (.tmp 7) = .int .i64 la) (t8 : a.eval (.tmp 8) = .int .i64 k) (q0 : w.cell? ⟨b3, 0, none⟩ = some (.int .i64 o)) (q1 : w.cell? ⟨b3, 1, none⟩ = some (.int .i64 t)) (q2 : w.cell? ⟨b3, 2, none⟩ = some (.slice A nl c)) (hnl : nl ≤ 12) (hk : k < n1) (m0 : w.cell? ⟨b1, o1 + k, none⟩ = some (.int .i64 nn)) (hi' : CV w 31 #[.int .i64 nn, .int .i64 0, .int .i64 (nl - 1)] (.bool false)) : OpOk Try.prog opsTr0 (wordsTr0 b1 o1 b3 k A A2 nl c n1 c1 n2 c2 o t la nn) 66 a w 2 := by
  refine OpOk.gen rfl (fun a1 w1 H => ?_)
  have d0 : a1.eval (.tmp 29) = .slice (some ⟨b1, o1, none⟩) n1 c1 := H.dep 0 29 rfl (by kernel_rfl)
  have d1 : a1.eval (.tmp 30) = .int .i64 k := H.dep 1 30 rfl (by kernel_rfl)
  refine gd_none ?_
  exact OpW.index d0 d1 (ix25o hk _) rfl
theorem okTr0_3 {b1 o1 b3 k : Nat} {A A2 : Option Addr} {nl c n1 c1 n2 c2 : Nat} {o t la nn : Int} {a : Act} {w : World} (t1 : a.eval (.tmp 1) = .slice (some ⟨b1, o1, none⟩) n1 c1) (t2 : a.eval (.tmp 2) = .slice A2 n2 c2) (t3 : a.eval (.tmp 3) = .pointer (some ⟨b3, 0, none⟩)) (t7 : a.eval (.tmp 7) = .int .i64 la) (t8 : a.eval (.tmp 8) = .int .i64 k) (q0 : w.cell? ⟨b3, 0, none⟩ = some (.int .i64 o)) (q1 : w.cell? ⟨b3, 1, none⟩ = some (.int .i64 t)) (q2 : w.cell? ⟨b3, 2, none⟩ = some (.slice A nl c)) (hnl : nl ≤ 12) (hk : k < n1) (m0 : w.cell? ⟨b1, o1 + k, none⟩ = some (.int .i64 nn)) (hi' : CV w 31 #[.int .i64 nn, .int .i64 0, .int .i64 (nl - 1)] (.bool false)) : OpOk Try.prog opsTr0 (wordsTr0 b1 o1 b3 k A A2 nl c n1 c1 n2 c2 o t la nn) 66 a w 3 := by
  refine OpOk.gen rfl (fun a1 w1 H => ?_)
  have d2 : a1.eval (.tmp 31) = .pointer (some ⟨b1, o1 + k, none⟩) := H.dep 2 31 rfl (by kernel_rfl)
  refine gd_none ?_
  exact OpW.load d2 (ld3 (H.cell m0)) rfl
theorem okTr0_4 {b1 o1 b3 k : Nat} {A A2 : Option Addr} {nl c n1 c1 n2 c2 : Nat} {o t la nn : Int} {a : Act} {w : World} (t1 : a.eval (.tmp 1) = .slice (some ⟨b1, o1, none⟩) n1 c1) (t2 : a.eval (.tmp 2) = .slice A2 n2 c2) (t3 : a.eval (.tmp 3) = .pointer (some ⟨b3, 0, none⟩)) (t7 : a.eval (.tmp 7) = .int .i64 la) (t8 : a.eval (.tmp 8) = .int .i64 k) (q0 : w.cell? ⟨b3, 0, none⟩ = some (.int .i64 o)) (q1 : w.cell? ⟨b3, 1, none⟩ = some (.int .i64 t)) (q2 : w.cell? ⟨b3, 2, none⟩ = some (.slice A nl c)) (hnl : nl ≤ 12) (hk : k < n1) (m0 : w.cell? ⟨b1, o1 + k, none⟩ = some (.int .i64 nn)) (hi' : CV w 31 #[.int .i64 nn, .int .i64 0, .int .i64 (nl - 1)] (.bool false)) : OpOk Try.prog opsTr0 (wordsTr0 b1 o1 b3 k A A2 nl c n1 c1 n2 c2 o t la nn) 66 a w 4 := by
  refine OpOk.gen rfl (fun a1 w1 H => ?_)
  have e3 : a1.eval (.tmp 3) = .pointer (some ⟨b3, 0, none⟩) := (H.out 3 (by kernel_rfl)).trans t3
  refine gd_none ?_
  exact OpW.field e3 (fa24_2 _) rfl
theorem okTr0_5 {b1 o1 b3 k : Nat} {A A2 : Option Addr} {nl c n1 c1 n2 c2 : Nat} {o t la nn : Int} {a : Act} {w : World} (t1 : a.eval (.tmp 1) = .slice (some ⟨b1, o1, none⟩) n1 c1) (t2 : a.eval (.tmp 2) = .slice A2 n2 c2) (t3 : a.eval (.tmp 3) = .pointer (some ⟨b3, 0, none⟩)) (t7 : a.eval (.tmp 7) = .int .i64 la) (t8 : a.eval (.tmp 8) = .int .i64 k) (q0 : w.cell? ⟨b3, 0, none⟩ = some (.int .i64 o)) (q1 : w.cell? ⟨b3, 1, none⟩ = some (.int .i64 t)) (q2 : w.cell? ⟨b3, 2, none⟩ = some (.slice A nl c)) (hnl : nl ≤ 12) (hk : k < n1) (m0 : w.cell? ⟨b1, o1 + k, none⟩ = some (.int .i64 nn)) (hi' : CV w 31 #[.int .i64 nn, .int .i64 0, .int .i64 (nl - 1)] (.bool false)) : OpOk Try.prog opsTr0 (wordsTr0 b1 o1 b3 k A A2 nl c n1 c1 n2 c2 o t la nn) 66 a w 5 := by
  refine OpOk.gen rfl (fun a1 w1 H => ?_)
  have d4 : a1.eval (.tmp 33) = .pointer (some ⟨b3, 2, none⟩) := H.dep 4 33 rfl (by kernel_rfl)
  refine gd_none ?_
  exact OpW.load d4 (ld22 (H.cell q2)) rfl
theorem okTr0_6 {b1 o1 b3 k : Nat} {A A2 : Option Addr} {nl c n1 c1 n2 c2 : Nat} {o t la nn : Int} {a : Act} {w : World} (t1 : a.eval (.tmp 1) = .slice (some ⟨b1, o1, none⟩) n1 c1) (t2 : a.eval (.tmp 2) = .slice A2 n2 c2) (t3 : a.eval (.tmp 3) = .pointer (some ⟨b3, 0, none⟩)) (t7 : a.eval (.tmp 7) = .int .i64 la) (t8 : a.eval (.tmp 8) = .int .i64 k) (q0 : w.cell? ⟨b3, 0, none⟩ = some (.int .i64 o)) (q1 : w.cell? ⟨b3, 1, none⟩ = some (.int .i64 t)) (q2 : w.cell? ⟨b3, 2, none⟩ = some (.slice A nl c)) (hnl : nl ≤ 12) (hk : k < n1) (m0 : w.cell? ⟨b1, o1 + k, none⟩ = some (.int .i64 nn)) (hi' : CV w 31 #[.int .i64 nn, .int .i64 0, .int .i64 (nl - 1)] (.bool false)) : OpOk Try.prog opsTr0 (wordsTr0 b1 o1 b3 k A A2 nl c n1 c1 n2 c2 o t la nn) 66 a w 6 := by
  refine OpOk.gen rfl (fun a1 w1 H => ?_)
  have d5 : a1.eval (.tmp 34) = .slice A nl c := H.dep 5 34 rfl (by kernel_rfl)
  refine gd_none ?_
  exact OpW.len d5 (ln22 _ _ _ _ _) rfl rfl
theorem okTr0_7 {b1 o1 b3 k : Nat} {A A2 : Option Addr} {nl c n1 c1 n2 c2 : Nat} {o t la nn : Int} {a : Act} {w : World} (t1 : a.eval (.tmp 1) = .slice (some ⟨b1, o1, none⟩) n1 c1) (t2 : a.eval (.tmp 2) = .slice A2 n2 c2) (t3 : a.eval (.tmp 3) = .pointer (some ⟨b3, 0, none⟩)) (t7 : a.eval (.tmp 7) = .int .i64 la) (t8 : a.eval (.tmp 8) = .int .i64 k) (q0 : w.cell? ⟨b3, 0, none⟩ = some (.int .i64 o)) (q1 : w.cell? ⟨b3, 1, none⟩ = some (.int .i64 t)) (q2 : w.cell? ⟨b3, 2, none⟩ = some (.slice A nl c)) (hnl : nl ≤ 12) (hk : k < n1) (m0 : w.cell? ⟨b1, o1 + k, none⟩ = some (.int .i64 nn)) (hi' : CV w 31 #[.int .i64 nn, .int .i64 0, .int .i64 (nl - 1)] (.bool false)) : OpOk Try.prog opsTr0 (wordsTr0 b1 o1 b3 k A A2 nl c n1 c1 n2 c2 o t la nn) 66 a w 7 := by
  refine OpOk.gen rfl (fun a1 w1 H => ?_)
  have d6 : a1.eval (.tmp 35) = .int .i64 nl := H.dep 6 35 rfl (by kernel_rfl)
  refine gd_none ?_
  exact OpW.bin d6 rfl (sub3 (by omega) (by omega) _) rfl
theorem okTr0_8 {b1 o1 b3 k : Nat} {A A2 : Option Addr} {nl c n1 c1 n2 c2 : Nat} {o t la nn : Int} {a : Act} {w : World} (t1 : a.eval (.tmp 1) = .slice (some ⟨b1, o1, none⟩) n1 c1) (t2 : a.eval (.tmp 2) = .slice A2 n2 c2) (t3 : a.eval (.tmp 3) = .pointer (some ⟨b3, 0, none⟩)) (t7 : a.eval (.tmp 7) = .int .i64 la) (t8 : a.eval (.tmp 8) = .int .i64 k) (q0 : w.cell? ⟨b3, 0, none⟩ = some (.int .i64 o)) (q1 : w.cell? ⟨b3, 1, none⟩ = some (.int .i64 t)) (q2 : w.cell? ⟨b3, 2, none⟩ = some (.slice A nl c)) (hnl : nl ≤ 12) (hk : k < n1) (m0 : w.cell? ⟨b1, o1 + k, none⟩ = some (.int .i64 nn)) (hi' : CV w 31 #[.int .i64 nn, .int .i64 0, .int .i64 (nl - 1)] (.bool false)) : OpOk Try.prog opsTr0 (wordsTr0 b1 o1 b3 k A A2 nl c n1 c1 n2 c2 o t la nn) 66 a w 8 := by
  refine OpOk.gen rfl (fun a1 w1 H => ?_)
  have d3 : a1.eval (.tmp 32) = .int .i64 nn := H.dep 3 32 rfl (by kernel_rfl)
  have d7 : a1.eval (.tmp 36) = .int .i64 (nl - 1) := H.dep 7 36 rfl (by kernel_rfl)
  refine gd_none ?_
  exact OpW.call (vs := #[.int .i64 nn, .int .i64 0, .int .i64 (nl - 1)]) (enters_of Try.func31 (by kernel_rfl) rfl) (by simp [d3, d7]) (hi' w1 H.low)
theorem okTr0_9 {b1 o1 b3 k : Nat} {A A2 : Option Addr} {nl c n1 c1 n2 c2 : Nat} {o t la nn : Int} {a : Act} {w : World} (t1 : a.eval (.tmp 1) = .slice (some ⟨b1, o1, none⟩) n1 c1) (t2 : a.eval (.tmp 2) = .slice A2 n2 c2) (t3 : a.eval (.tmp 3) = .pointer (some ⟨b3, 0, none⟩)) (t7 : a.eval (.tmp 7) = .int .i64 la) (t8 : a.eval (.tmp 8) = .int .i64 k) (q0 : w.cell? ⟨b3, 0, none⟩ = some (.int .i64 o)) (q1 : w.cell? ⟨b3, 1, none⟩ = some (.int .i64 t)) (q2 : w.cell? ⟨b3, 2, none⟩ = some (.slice A nl c)) (hnl : nl ≤ 12) (hk : k < n1) (m0 : w.cell? ⟨b1, o1 + k, none⟩ = some (.int .i64 nn)) (hi' : CV w 31 #[.int .i64 nn, .int .i64 0, .int .i64 (nl - 1)] (.bool false)) : OpOk Try.prog opsTr0 (wordsTr0 b1 o1 b3 k A A2 nl c n1 c1 n2 c2 o t la nn) 66 a w 9 := by
  refine OpOk.gen rfl (fun a1 w1 H => ?_)
  have d8 : a1.eval (.tmp 37) = .bool false := H.dep 8 37 rfl (by kernel_rfl)
  refine gd_none ?_
  exact OpW.un d8 (not4 _ _) rfl
theorem okTr0_10 {b1 o1 b3 k : Nat} {A A2 : Option Addr} {nl c n1 c1 n2 c2 : Nat} {o t la nn : Int} {a : Act} {w : World} (t1 : a.eval (.tmp 1) = .slice (some ⟨b1, o1, none⟩) n1 c1) (t2 : a.eval (.tmp 2) = .slice A2 n2 c2) (t3 : a.eval (.tmp 3) = .pointer (some ⟨b3, 0, none⟩)) (t7 : a.eval (.tmp 7) = .int .i64 la) (t8 : a.eval (.tmp 8) = .int .i64 k) (q0 : w.cell? ⟨b3, 0, none⟩ = some (.int .i64 o)) (q1 : w.cell? ⟨b3, 1, none⟩ = some (.int .i64 t)) (q2 : w.cell? ⟨b3, 2, none⟩ = some (.slice A nl c)) (hnl : nl ≤ 12) (hk : k < n1) (m0 : w.cell? ⟨b1, o1 + k, none⟩ = some (.int .i64 nn)) (hi' : CV w 31 #[.int .i64 nn, .int .i64 0, .int .i64 (nl - 1)] (.bool false)) : OpOk Try.prog opsTr0 (wordsTr0 b1 o1 b3 k A A2 nl c n1 c1 n2 c2 o t la nn) 66 a w 10 := by
  refine OpOk.gen rfl (fun a1 w1 H => ?_)
  have d9 : a1.eval (.tmp 38) = .bool true := H.dep 9 38 rfl (by kernel_rfl)
  refine gd_none ?_
  exact OpW.move d9 rfl
theorem okTr0_11 {b1 o1 b3 k : Nat} {A A2 : Option Addr} {nl c n1 c1 n2 c2 : Nat} {o t la nn : Int} {a : Act} {w : World} (t1 : a.eval (.tmp 1) = .slice (some ⟨b1, o1, none⟩) n1 c1) (t2 : a.eval (.tmp 2) = .slice A2 n2 c2) (t3 : a.eval (.tmp 3) = .pointer (some ⟨b3, 0, none⟩)) (t7 : a.eval (.tmp 7) = .int .i64 la) (t8 : a.eval (.tmp 8) = .int .i64 k) (q0 : w.cell? ⟨b3, 0, none⟩ = some (.int .i64 o)) (q1 : w.cell? ⟨b3, 1, none⟩ = some (.int .i64 t)) (q2 : w.cell? ⟨b3, 2, none⟩ = some (.slice A nl c)) (hnl : nl ≤ 12) (hk : k < n1) (m0 : w.cell? ⟨b1, o1 + k, none⟩ = some (.int .i64 nn)) (hi' : CV w 31 #[.int .i64 nn, .int .i64 0, .int .i64 (nl - 1)] (.bool false)) : OpOk Try.prog opsTr0 (wordsTr0 b1 o1 b3 k A A2 nl c n1 c1 n2 c2 o t la nn) 66 a w 11 := by
  refine OpOk.gen rfl (fun a1 w1 H => ?_)
  have d10 : a1.eval (.tmp 39) = .bool true := H.dep 10 39 rfl (by kernel_rfl)
  refine gd_false rfl d10 (by decide) ?_
  trivial
theorem okTr0_12 {b1 o1 b3 k : Nat} {A A2 : Option Addr} {nl c n1 c1 n2 c2 : Nat} {o t la nn : Int} {a : Act} {w : World} (t1 : a.eval (.tmp 1) = .slice (some ⟨b1, o1, none⟩) n1 c1) (t2 : a.eval (.tmp 2) = .slice A2 n2 c2) (t3 : a.eval (.tmp 3) = .pointer (some ⟨b3, 0, none⟩)) (t7 : a.eval (.tmp 7) = .int .i64 la) (t8 : a.eval (.tmp 8) = .int .i64 k) (q0 : w.cell? ⟨b3, 0, none⟩ = some (.int .i64 o)) (q1 : w.cell? ⟨b3, 1, none⟩ = some (.int .i64 t)) (q2 : w.cell? ⟨b3, 2, none⟩ = some (.slice A nl c)) (hnl : nl ≤ 12) (hk : k < n1) (m0 : w.cell? ⟨b1, o1 + k, none⟩ = some (.int .i64 nn)) (hi' : CV w 31 #[.int .i64 nn, .int .i64 0, .int .i64 (nl - 1)] (.bool false)) : OpOk Try.prog opsTr0 (wordsTr0 b1 o1 b3 k A A2 nl c n1 c1 n2 c2 o t la nn) 66 a w 12 := by
  refine OpOk.gen rfl (fun a1 w1 H => ?_)
  have d10 : a1.eval (.tmp 39) = .bool true := H.dep 10 39 rfl (by kernel_rfl)
  refine gd_false rfl d10 (by decide) ?_
  trivial
theorem okTr0_13 {b1 o1 b3 k : Nat} {A A2 : Option Addr} {nl c n1 c1 n2 c2 : Nat} {o t la nn : Int} {a : Act} {w : World} (t1 : a.eval (.tmp 1) = .slice (some ⟨b1, o1, none⟩) n1 c1) (t2 : a.eval (.tmp 2) = .slice A2 n2 c2) (t3 : a.eval (.tmp 3) = .pointer (some ⟨b3, 0, none⟩)) (t7 : a.eval (.tmp 7) = .int .i64 la) (t8 : a.eval (.tmp 8) = .int .i64 k) (q0 : w.cell? ⟨b3, 0, none⟩ = some (.int .i64 o)) (q1 : w.cell? ⟨b3, 1, none⟩ = some (.int .i64 t)) (q2 : w.cell? ⟨b3, 2, none⟩ = some (.slice A nl c)) (hnl : nl ≤ 12) (hk : k < n1) (m0 : w.cell? ⟨b1, o1 + k, none⟩ = some (.int .i64 nn)) (hi' : CV w 31 #[.int .i64 nn, .int .i64 0, .int .i64 (nl - 1)] (.bool false)) : OpOk Try.prog opsTr0 (wordsTr0 b1 o1 b3 k A A2 nl c n1 c1 n2 c2 o t la nn) 66 a w 13 := by
  refine OpOk.gen rfl (fun a1 w1 H => ?_)
  have d10 : a1.eval (.tmp 39) = .bool true := H.dep 10 39 rfl (by kernel_rfl)
  refine gd_false rfl d10 (by decide) ?_
  trivial
theorem okTr0_14 {b1 o1 b3 k : Nat} {A A2 : Option Addr} {nl c n1 c1 n2 c2 : Nat} {o t la nn : Int} {a : Act} {w : World} (t1 : a.eval (.tmp 1) = .slice (some ⟨b1, o1, none⟩) n1 c1) (t2 : a.eval (.tmp 2) = .slice A2 n2 c2) (t3 : a.eval (.tmp 3) = .pointer (some ⟨b3, 0, none⟩)) (t7 : a.eval (.tmp 7) = .int .i64 la) (t8 : a.eval (.tmp 8) = .int .i64 k) (q0 : w.cell? ⟨b3, 0, none⟩ = some (.int .i64 o)) (q1 : w.cell? ⟨b3, 1, none⟩ = some (.int .i64 t)) (q2 : w.cell? ⟨b3, 2, none⟩ = some (.slice A nl c)) (hnl : nl ≤ 12) (hk : k < n1) (m0 : w.cell? ⟨b1, o1 + k, none⟩ = some (.int .i64 nn)) (hi' : CV w 31 #[.int .i64 nn, .int .i64 0, .int .i64 (nl - 1)] (.bool false)) : OpOk Try.prog opsTr0 (wordsTr0 b1 o1 b3 k A A2 nl c n1 c1 n2 c2 o t la nn) 66 a w 14 := by
  refine OpOk.gen rfl (fun a1 w1 H => ?_)
  have d10 : a1.eval (.tmp 39) = .bool true := H.dep 10 39 rfl (by kernel_rfl)
  refine gd_false rfl d10 (by decide) ?_
  trivial
theorem okTr0_15 {b1 o1 b3 k : Nat} {A A2 : Option Addr} {nl c n1 c1 n2 c2 : Nat} {o t la nn : Int} {a : Act} {w : World} (t1 : a.eval (.tmp 1) = .slice (some ⟨b1, o1, none⟩) n1 c1) (t2 : a.eval (.tmp 2) = .slice A2 n2 c2) (t3 : a.eval (.tmp 3) = .pointer (some ⟨b3, 0, none⟩)) (t7 : a.eval (.tmp 7) = .int .i64 la) (t8 : a.eval (.tmp 8) = .int .i64 k) (q0 : w.cell? ⟨b3, 0, none⟩ = some (.int .i64 o)) (q1 : w.cell? ⟨b3, 1, none⟩ = some (.int .i64 t)) (q2 : w.cell? ⟨b3, 2, none⟩ = some (.slice A nl c)) (hnl : nl ≤ 12) (hk : k < n1) (m0 : w.cell? ⟨b1, o1 + k, none⟩ = some (.int .i64 nn)) (hi' : CV w 31 #[.int .i64 nn, .int .i64 0, .int .i64 (nl - 1)] (.bool false)) : OpOk Try.prog opsTr0 (wordsTr0 b1 o1 b3 k A A2 nl c n1 c1 n2 c2 o t la nn) 66 a w 15 := by
  refine OpOk.gen rfl (fun a1 w1 H => ?_)
  have d10 : a1.eval (.tmp 39) = .bool true := H.dep 10 39 rfl (by kernel_rfl)
  refine gd_false rfl d10 (by decide) ?_
  trivial
theorem okTr0_16 {b1 o1 b3 k : Nat} {A A2 : Option Addr} {nl c n1 c1 n2 c2 : Nat} {o t la nn : Int} {a : Act} {w : World} (t1 : a.eval (.tmp 1) = .slice (some ⟨b1, o1, none⟩) n1 c1) (t2 : a.eval (.tmp 2) = .slice A2 n2 c2) (t3 : a.eval (.tmp 3) = .pointer (some ⟨b3, 0, none⟩)) (t7 : a.eval (.tmp 7) = .int .i64 la) (t8 : a.eval (.tmp 8) = .int .i64 k) (q0 : w.cell? ⟨b3, 0, none⟩ = some (.int .i64 o)) (q1 : w.cell? ⟨b3, 1, none⟩ = some (.int .i64 t)) (q2 : w.cell? ⟨b3, 2, none⟩ = some (.slice A nl c)) (hnl : nl ≤ 12) (hk : k < n1) (m0 : w.cell? ⟨b1, o1 + k, none⟩ = some (.int .i64 nn)) (hi' : CV w 31 #[.int .i64 nn, .int .i64 0, .int .i64 (nl - 1)] (.bool false)) : OpOk Try.prog opsTr0 (wordsTr0 b1 o1 b3 k A A2 nl c n1 c1 n2 c2 o t la nn) 66 a w 16 := by
  refine OpOk.gen rfl (fun a1 w1 H => ?_)
  have d10 : a1.eval (.tmp 39) = .bool true := H.dep 10 39 rfl (by kernel_rfl)
  refine gd_false rfl d10 (by decide) ?_
  trivial
theorem okTr0_17 {b1 o1 b3 k : Nat} {A A2 : Option Addr} {nl c n1 c1 n2 c2 : Nat} {o t la nn : Int} {a : Act} {w : World} (t1 : a.eval (.tmp 1) = .slice (some ⟨b1, o1, none⟩) n1 c1) (t2 : a.eval (.tmp 2) = .slice A2 n2 c2) (t3 : a.eval (.tmp 3) = .pointer (some ⟨b3, 0, none⟩)) (t7 : a.eval (.tmp 7) = .int .i64 la) (t8 : a.eval (.tmp 8) = .int .i64 k) (q0 : w.cell? ⟨b3, 0, none⟩ = some (.int .i64 o)) (q1 : w.cell? ⟨b3, 1, none⟩ = some (.int .i64 t)) (q2 : w.cell? ⟨b3, 2, none⟩ = some (.slice A nl c)) (hnl : nl ≤ 12) (hk : k < n1) (m0 : w.cell? ⟨b1, o1 + k, none⟩ = some (.int .i64 nn)) (hi' : CV w 31 #[.int .i64 nn, .int .i64 0, .int .i64 (nl - 1)] (.bool false)) : OpOk Try.prog opsTr0 (wordsTr0 b1 o1 b3 k A A2 nl c n1 c1 n2 c2 o t la nn) 66 a w 17 := by
  refine OpOk.gen rfl (fun a1 w1 H => ?_)
  have d10 : a1.eval (.tmp 39) = .bool true := H.dep 10 39 rfl (by kernel_rfl)
  refine gd_false rfl d10 (by decide) ?_
  trivial
theorem okTr0_18 {b1 o1 b3 k : Nat} {A A2 : Option Addr} {nl c n1 c1 n2 c2 : Nat} {o t la nn : Int} {a : Act} {w : World} (t1 : a.eval (.tmp 1) = .slice (some ⟨b1, o1, none⟩) n1 c1) (t2 : a.eval (.tmp 2) = .slice A2 n2 c2) (t3 : a.eval (.tmp 3) = .pointer (some ⟨b3, 0, none⟩)) (t7 : a.eval (.tmp 7) = .int .i64 la) (t8 : a.eval (.tmp 8) = .int .i64 k) (q0 : w.cell? ⟨b3, 0, none⟩ = some (.int .i64 o)) (q1 : w.cell? ⟨b3, 1, none⟩ = some (.int .i64 t)) (q2 : w.cell? ⟨b3, 2, none⟩ = some (.slice A nl c)) (hnl : nl ≤ 12) (hk : k < n1) (m0 : w.cell? ⟨b1, o1 + k, none⟩ = some (.int .i64 nn)) (hi' : CV w 31 #[.int .i64 nn, .int .i64 0, .int .i64 (nl - 1)] (.bool false)) : OpOk Try.prog opsTr0 (wordsTr0 b1 o1 b3 k A A2 nl c n1 c1 n2 c2 o t la nn) 66 a w 18 := by
  refine OpOk.gen rfl (fun a1 w1 H => ?_)
  have d10 : a1.eval (.tmp 39) = .bool true := H.dep 10 39 rfl (by kernel_rfl)
  refine gd_false rfl d10 (by decide) ?_
  trivial
theorem okTr0_19 {b1 o1 b3 k : Nat} {A A2 : Option Addr} {nl c n1 c1 n2 c2 : Nat} {o t la nn : Int} {a : Act} {w : World} (t1 : a.eval (.tmp 1) = .slice (some ⟨b1, o1, none⟩) n1 c1) (t2 : a.eval (.tmp 2) = .slice A2 n2 c2) (t3 : a.eval (.tmp 3) = .pointer (some ⟨b3, 0, none⟩)) (t7 : a.eval (.tmp 7) = .int .i64 la) (t8 : a.eval (.tmp 8) = .int .i64 k) (q0 : w.cell? ⟨b3, 0, none⟩ = some (.int .i64 o)) (q1 : w.cell? ⟨b3, 1, none⟩ = some (.int .i64 t)) (q2 : w.cell? ⟨b3, 2, none⟩ = some (.slice A nl c)) (hnl : nl ≤ 12) (hk : k < n1) (m0 : w.cell? ⟨b1, o1 + k, none⟩ = some (.int .i64 nn)) (hi' : CV w 31 #[.int .i64 nn, .int .i64 0, .int .i64 (nl - 1)] (.bool false)) : OpOk Try.prog opsTr0 (wordsTr0 b1 o1 b3 k A A2 nl c n1 c1 n2 c2 o t la nn) 66 a w 19 := by
  refine OpOk.gen rfl (fun a1 w1 H => ?_)
  have d10 : a1.eval (.tmp 39) = .bool true := H.dep 10 39 rfl (by kernel_rfl)
  refine gd_false rfl d10 (by decide) ?_
  trivial
theorem okTr0_20 {b1 o1 b3 k : Nat} {A A2 : Option Addr} {nl c n1 c1 n2 c2 : Nat} {o t la nn : Int} {a : Act} {w : World} (t1 : a.eval (.tmp 1) = .slice (some ⟨b1, o1, none⟩) n1 c1) (t2 : a.eval (.tmp 2) = .slice A2 n2 c2) (t3 : a.eval (.tmp 3) = .pointer (some ⟨b3, 0, none⟩)) (t7 : a.eval (.tmp 7) = .int .i64 la) (t8 : a.eval (.tmp 8) = .int .i64 k) (q0 : w.cell? ⟨b3, 0, none⟩ = some (.int .i64 o)) (q1 : w.cell? ⟨b3, 1, none⟩ = some (.int .i64 t)) (q2 : w.cell? ⟨b3, 2, none⟩ = some (.slice A nl c)) (hnl : nl ≤ 12) (hk : k < n1) (m0 : w.cell? ⟨b1, o1 + k, none⟩ = some (.int .i64 nn)) (hi' : CV w 31 #[.int .i64 nn, .int .i64 0, .int .i64 (nl - 1)] (.bool false)) : OpOk Try.prog opsTr0 (wordsTr0 b1 o1 b3 k A A2 nl c n1 c1 n2 c2 o t la nn) 66 a w 20 := by
  refine OpOk.gen rfl (fun a1 w1 H => ?_)
  have d10 : a1.eval (.tmp 39) = .bool true := H.dep 10 39 rfl (by kernel_rfl)
  refine gd_false rfl d10 (by decide) ?_
  trivial
theorem okTr0_21 {b1 o1 b3 k : Nat} {A A2 : Option Addr} {nl c n1 c1 n2 c2 : Nat} {o t la nn : Int} {a : Act} {w : World} (t1 : a.eval (.tmp 1) = .slice (some ⟨b1, o1, none⟩) n1 c1) (t2 : a.eval (.tmp 2) = .slice A2 n2 c2) (t3 : a.eval (.tmp 3) = .pointer (some ⟨b3, 0, none⟩)) (t7 : a.eval (.tmp 7) = .int .i64 la) (t8 : a.eval (.tmp 8) = .int .i64 k) (q0 : w.cell? ⟨b3, 0, none⟩ = some (.int .i64 o)) (q1 : w.cell? ⟨b3, 1, none⟩ = some (.int .i64 t)) (q2 : w.cell? ⟨b3, 2, none⟩ = some (.slice A nl c)) (hnl : nl ≤ 12) (hk : k < n1) (m0 : w.cell? ⟨b1, o1 + k, none⟩ = some (.int .i64 nn)) (hi' : CV w 31 #[.int .i64 nn, .int .i64 0, .int .i64 (nl - 1)] (.bool false)) : OpOk Try.prog opsTr0 (wordsTr0 b1 o1 b3 k A A2 nl c n1 c1 n2 c2 o t la nn) 66 a w 21 := by
  refine OpOk.gen rfl (fun a1 w1 H => ?_)
  have d10 : a1.eval (.tmp 39) = .bool true := H.dep 10 39 rfl (by kernel_rfl)
  refine gd_false rfl d10 (by decide) ?_
  trivial
theorem okTr0_22 {b1 o1 b3 k : Nat} {A A2 : Option Addr} {nl c n1 c1 n2 c2 : Nat} {o t la nn : Int} {a : Act} {w : World} (t1 : a.eval (.tmp 1) = .slice (some ⟨b1, o1, none⟩) n1 c1) (t2 : a.eval (.tmp 2) = .slice A2 n2 c2) (t3 : a.eval (.tmp 3) = .pointer (some ⟨b3, 0, none⟩)) (t7 : a.eval (.tmp 7) = .int .i64 la) (t8 : a.eval (.tmp 8) = .int .i64 k) (q0 : w.cell? ⟨b3, 0, none⟩ = some (.int .i64 o)) (q1 : w.cell? ⟨b3, 1, none⟩ = some (.int .i64 t)) (q2 : w.cell? ⟨b3, 2, none⟩ = some (.slice A nl c)) (hnl : nl ≤ 12) (hk : k < n1) (m0 : w.cell? ⟨b1, o1 + k, none⟩ = some (.int .i64 nn)) (hi' : CV w 31 #[.int .i64 nn, .int .i64 0, .int .i64 (nl - 1)] (.bool false)) : OpOk Try.prog opsTr0 (wordsTr0 b1 o1 b3 k A A2 nl c n1 c1 n2 c2 o t la nn) 66 a w 22 := by
  refine OpOk.gen rfl (fun a1 w1 H => ?_)
  have d10 : a1.eval (.tmp 39) = .bool true := H.dep 10 39 rfl (by kernel_rfl)
  refine gd_false rfl d10 (by decide) ?_
  trivial
theorem okTr0_23 {b1 o1 b3 k : Nat} {A A2 : Option Addr} {nl c n1 c1 n2 c2 : Nat} {o t la nn : Int} {a : Act} {w : World} (t1 : a.eval (.tmp 1) = .slice (some ⟨b1, o1, none⟩) n1 c1) (t2 : a.eval (.tmp 2) = .slice A2 n2 c2) (t3 : a.eval (.tmp 3) = .pointer (some ⟨b3, 0, none⟩)) (t7 : a.eval (.tmp 7) = .int .i64 la) (t8 : a.eval (.tmp 8) = .int .i64 k) (q0 : w.cell? ⟨b3, 0, none⟩ = some (.int .i64 o)) (q1 : w.cell? ⟨b3, 1, none⟩ = some (.int .i64 t)) (q2 : w.cell? ⟨b3, 2, none⟩ = some (.slice A nl c)) (hnl : nl ≤ 12) (hk : k < n1) (m0 : w.cell? ⟨b1, o1 + k, none⟩ = some (.int .i64 nn)) (hi' : CV w 31 #[.int .i64 nn, .int .i64 0, .int .i64 (nl - 1)] (.bool false)) : OpOk Try.prog opsTr0 (wordsTr0 b1 o1 b3 k A A2 nl c n1 c1 n2 c2 o t la nn) 66 a w 23 := by
  refine OpOk.gen rfl (fun a1 w1 H => ?_)
  have d10 : a1.eval (.tmp 39) = .bool true := H.dep 10 39 rfl (by kernel_rfl)
  refine gd_false rfl d10 (by decide) ?_
  trivial
theorem okTr0_24 {b1 o1 b3 k : Nat} {A A2 : Option Addr} {nl c n1 c1 n2 c2 : Nat} {o t la nn : Int} {a : Act} {w : World} (t1 : a.eval (.tmp 1) = .slice (some ⟨b1, o1, none⟩) n1 c1) (t2 : a.eval (.tmp 2) = .slice A2 n2 c2) (t3 : a.eval (.tmp 3) = .pointer (some ⟨b3, 0, none⟩)) (t7 : a.eval (.tmp 7) = .int .i64 la) (t8 : a.eval (.tmp 8) = .int .i64 k) (q0 : w.cell? ⟨b3, 0, none⟩ = some (.int .i64 o)) (q1 : w.cell? ⟨b3, 1, none⟩ = some (.int .i64 t)) (q2 : w.cell? ⟨b3, 2, none⟩ = some (.slice A nl c)) (hnl : nl ≤ 12) (hk : k < n1) (m0 : w.cell? ⟨b1, o1 + k, none⟩ = some (.int .i64 nn)) (hi' : CV w 31 #[.int .i64 nn, .int .i64 0, .int .i64 (nl - 1)] (.bool false)) : OpOk Try.prog opsTr0 (wordsTr0 b1 o1 b3 k A A2 nl c n1 c1 n2 c2 o t la nn) 66 a w 24 := by
  refine OpOk.gen rfl (fun a1 w1 H => ?_)
  have d10 : a1.eval (.tmp 39) = .bool true := H.dep 10 39 rfl (by kernel_rfl)
  refine gd_false rfl d10 (by decide) ?_
  trivial
theorem okTr0_25 {b1 o1 b3 k : Nat} {A A2 : Option Addr} {nl c n1 c1 n2 c2 : Nat} {o t la nn : Int} {a : Act} {w : World} (t1 : a.eval (.tmp 1) = .slice (some ⟨b1, o1, none⟩) n1 c1) (t2 : a.eval (.tmp 2) = .slice A2 n2 c2) (t3 : a.eval (.tmp 3) = .pointer (some ⟨b3, 0, none⟩)) (t7 : a.eval (.tmp 7) = .int .i64 la) (t8 : a.eval (.tmp 8) = .int .i64 k) (q0 : w.cell? ⟨b3, 0, none⟩ = some (.int .i64 o)) (q1 : w.cell? ⟨b3, 1, none⟩ = some (.int .i64 t)) (q2 : w.cell? ⟨b3, 2, none⟩ = some (.slice A nl c)) (hnl : nl ≤ 12) (hk : k < n1) (m0 : w.cell? ⟨b1, o1 + k, none⟩ = some (.int .i64 nn)) (hi' : CV w 31 #[.int .i64 nn, .int .i64 0, .int .i64 (nl - 1)] (.bool false)) : OpOk Try.prog opsTr0 (wordsTr0 b1 o1 b3 k A A2 nl c n1 c1 n2 c2 o t la nn) 66 a w 25 := by
  refine OpOk.gen rfl (fun a1 w1 H => ?_)
  have d10 : a1.eval (.tmp 39) = .bool true := H.dep 10 39 rfl (by kernel_rfl)
  refine gd_false rfl d10 (by decide) ?_
  trivial
theorem okTr0_26 {b1 o1 b3 k : Nat} {A A2 : Option Addr} {nl c n1 c1 n2 c2 : Nat} {o t la nn : Int} {a : Act} {w : World} (t1 : a.eval (.tmp 1) = .slice (some ⟨b1, o1, none⟩) n1 c1) (t2 : a.eval (.tmp 2) = .slice A2 n2 c2) (t3 : a.eval (.tmp 3) = .pointer (some ⟨b3, 0, none⟩)) (t7 : a.eval (.tmp 7) = .int .i64 la) (t8 : a.eval (.tmp 8) = .int .i64 k) (q0 : w.cell? ⟨b3, 0, none⟩ = some (.int .i64 o)) (q1 : w.cell? ⟨b3, 1, none⟩ = some (.int .i64 t)) (q2 : w.cell? ⟨b3, 2, none⟩ = some (.slice A nl c)) (hnl : nl ≤ 12) (hk : k < n1) (m0 : w.cell? ⟨b1, o1 + k, none⟩ = some (.int .i64 nn)) (hi' : CV w 31 #[.int .i64 nn, .int .i64 0, .int .i64 (nl - 1)] (.bool false)) : OpOk Try.prog opsTr0 (wordsTr0 b1 o1 b3 k A A2 nl c n1 c1 n2 c2 o t la nn) 66 a w 26 := by
  refine OpOk.gen rfl (fun a1 w1 H => ?_)
  have d10 : a1.eval (.tmp 39) = .bool true := H.dep 10 39 rfl (by kernel_rfl)
  refine gd_false rfl d10 (by decide) ?_
  trivial
theorem okTr0_27 {b1 o1 b3 k : Nat} {A A2 : Option Addr} {nl c n1 c1 n2 c2 : Nat} {o t la nn : Int} {a : Act} {w : World} (t1 : a.eval (.tmp 1) = .slice (some ⟨b1, o1, none⟩) n1 c1) (t2 : a.eval (.tmp 2) = .slice A2 n2 c2) (t3 : a.eval (.tmp 3) = .pointer (some ⟨b3, 0, none⟩)) (t7 : a.eval (.tmp 7) = .int .i64 la) (t8 : a.eval (.tmp 8) = .int .i64 k) (q0 : w.cell? ⟨b3, 0, none⟩ = some (.int .i64 o)) (q1 : w.cell? ⟨b3, 1, none⟩ = some (.int .i64 t)) (q2 : w.cell? ⟨b3, 2, none⟩ = some (.slice A nl c)) (hnl : nl ≤ 12) (hk : k < n1) (m0 : w.cell? ⟨b1, o1 + k, none⟩ = some (.int .i64 nn)) (hi' : CV w 31 #[.int .i64 nn, .int .i64 0, .int .i64 (nl - 1)] (.bool false)) : OpOk Try.prog opsTr0 (wordsTr0 b1 o1 b3 k A A2 nl c n1 c1 n2 c2 o t la nn) 66 a w 27 := by
  refine OpOk.gen rfl (fun a1 w1 H => ?_)
  have d10 : a1.eval (.tmp 39) = .bool true := H.dep 10 39 rfl (by kernel_rfl)
  refine gd_false rfl d10 (by decide) ?_
  trivial
theorem okTr0_28 {b1 o1 b3 k : Nat} {A A2 : Option Addr} {nl c n1 c1 n2 c2 : Nat} {o t la nn : Int} {a : Act} {w : World} (t1 : a.eval (.tmp 1) = .slice (some ⟨b1, o1, none⟩) n1 c1) (t2 : a.eval (.tmp 2) = .slice A2 n2 c2) (t3 : a.eval (.tmp 3) = .pointer (some ⟨b3, 0, none⟩)) (t7 : a.eval (.tmp 7) = .int .i64 la) (t8 : a.eval (.tmp 8) = .int .i64 k) (q0 : w.cell? ⟨b3, 0, none⟩ = some (.int .i64 o)) (q1 : w.cell? ⟨b3, 1, none⟩ = some (.int .i64 t)) (q2 : w.cell? ⟨b3, 2, none⟩ = some (.slice A nl c)) (hnl : nl ≤ 12) (hk : k < n1) (m0 : w.cell? ⟨b1, o1 + k, none⟩ = some (.int .i64 nn)) (hi' : CV w 31 #[.int .i64 nn, .int .i64 0, .int .i64 (nl - 1)] (.bool false)) : OpOk Try.prog opsTr0 (wordsTr0 b1 o1 b3 k A A2 nl c n1 c1 n2 c2 o t la nn) 66 a w 28 := by
  refine OpOk.gen rfl (fun a1 w1 H => ?_)
  have d10 : a1.eval (.tmp 39) = .bool true := H.dep 10 39 rfl (by kernel_rfl)
  refine gd_false rfl d10 (by decide) ?_
  trivial
theorem okTr0_29 {b1 o1 b3 k : Nat} {A A2 : Option Addr} {nl c n1 c1 n2 c2 : Nat} {o t la nn : Int} {a : Act} {w : World} (t1 : a.eval (.tmp 1) = .slice (some ⟨b1, o1, none⟩) n1 c1) (t2 : a.eval (.tmp 2) = .slice A2 n2 c2) (t3 : a.eval (.tmp 3) = .pointer (some ⟨b3, 0, none⟩)) (t7 : a.eval (.tmp 7) = .int .i64 la) (t8 : a.eval (.tmp 8) = .int .i64 k) (q0 : w.cell? ⟨b3, 0, none⟩ = some (.int .i64 o)) (q1 : w.cell? ⟨b3, 1, none⟩ = some (.int .i64 t)) (q2 : w.cell? ⟨b3, 2, none⟩ = some (.slice A nl c)) (hnl : nl ≤ 12) (hk : k < n1) (m0 : w.cell? ⟨b1, o1 + k, none⟩ = some (.int .i64 nn)) (hi' : CV w 31 #[.int .i64 nn, .int .i64 0, .int .i64 (nl - 1)] (.bool false)) : OpOk Try.prog opsTr0 (wordsTr0 b1 o1 b3 k A A2 nl c n1 c1 n2 c2 o t la nn) 66 a w 29 := by
  refine OpOk.gen rfl (fun a1 w1 H => ?_)
  have d10 : a1.eval (.tmp 39) = .bool true := H.dep 10 39 rfl (by kernel_rfl)
  refine gd_none ?_
  exact OpW.pick (b := true) d10 rfl
theorem regionTr0 {F : Fence} {n : Nat} (hF : WideF F Try.prog) {Q : Exit → Act → World → Prop} {b1 o1 b3 k : Nat} {A A2 : Option Addr} {nl c n1 c1 n2 c2 : Nat} {o t la nn : Int} {a : Act} {w : World} (hsz : a.tmps.size = 66)
    (t1 : a.eval (.tmp 1) = .slice (some ⟨b1, o1, none⟩) n1 c1) (t2 : a.eval (.tmp 2) = .slice A2 n2 c2) (t3 : a.eval (.tmp 3) = .pointer (some ⟨b3, 0, none⟩)) (t7 : a.eval (.tmp 7) = .int .i64 la) (t8 : a.eval (.tmp 8) = .int .i64 k) (q0 : w.cell? ⟨b3, 0, none⟩ = some (.int .i64 o)) (q1 : w.cell? ⟨b3, 1, none⟩ = some (.int .i64 t)) (q2 : w.cell? ⟨b3, 2, none⟩ = some (.slice A nl c)) (hnl : nl ≤ 12) (hk : k < n1) (m0 : w.cell? ⟨b1, o1 + k, none⟩ = some (.int .i64 nn)) (hi' : CV w 31 #[.int .i64 nn, .int .i64 0, .int .i64 (nl - 1)] (.bool false))
    (hK : ∀ (a' : Act) (w' : World), a'.tmps.size = 66 → a'.defers = a.defers → Below w.heap.size w w' → (∀ e, ndstB opsTr0 e = true → a'.eval (.tmp e) = a.eval (.tmp e)) → (∀ (j d : Nat), (opsTr0[j]?).bind (·.dst) = some d → (wordsTr0 b1 o1 b3 k A A2 nl c n1 c1 n2 c2 o t la nn).at_ j (a'.eval (.tmp d)) w') → Q .normal a' w') :
    (Code.region 7 opsTr0 true).wpIn F n Try.prog Q a w := by
  refine region_S (wordsTr0 b1 o1 b3 k A A2 nl c n1 c1 n2 c2 o t la nn) 66 hF (by kernel_rfl) Try.mixed (by kernel_rfl) (by kernel_rfl) ?_ hsz 30 (by kernel_rfl) ?_ hK
  · exact ⟨(fun _ _ _ h _ => h), (fun _ _ _ h _ => h), (fun _ _ _ h _ => h), (fun _ _ _ h _ => h), (fun _ _ _ h _ => h), (fun _ _ _ h _ => h), (fun _ _ _ h _ => h), (fun _ _ _ h _ => h), (fun _ _ _ h _ => h), (fun _ _ _ h _ => h), (fun _ _ _ h _ => h), (fun _ _ _ _ _ => trivial), (fun _ _ _ _ _ => trivial), (fun _ _ _ _ _ => trivial), (fun _ _ _ _ _ => trivial), (fun _ _ _ _ _ => trivial), (fun _ _ _ _ _ => trivial), (fun _ _ _ _ _ => trivial), (fun _ _ _ _ _ => trivial), (fun _ _ _ _ _ => trivial), (fun _ _ _ _ _ => trivial), (fun _ _ _ _ _ => trivial), (fun _ _ _ _ _ => trivial), (fun _ _ _ _ _ => trivial), (fun _ _ _ _ _ => trivial), (fun _ _ _ _ _ => trivial), (fun _ _ _ _ _ => trivial), (fun _ _ _ _ _ => trivial), (fun _ _ _ _ _ => trivial), (fun _ _ _ h _ => h), trivial⟩
  · exact ⟨⟨⟨⟨⟨⟨⟨⟨⟨⟨⟨⟨⟨⟨⟨⟨⟨⟨⟨⟨⟨⟨⟨⟨⟨⟨⟨⟨⟨⟨trivial, okTr0_0 t1 t2 t3 t7 t8 q0 q1 q2 hnl hk m0 hi'.drew⟩, okTr0_1 t1 t2 t3 t7 t8 q0 q1 q2 hnl hk m0 hi'.drew⟩, okTr0_2 t1 t2 t3 t7 t8 q0 q1 q2 hnl hk m0 hi'.drew⟩, okTr0_3 t1 t2 t3 t7 t8 q0 q1 q2 hnl hk m0 hi'.drew⟩, okTr0_4 t1 t2 t3 t7 t8 q0 q1 q2 hnl hk m0 hi'.drew⟩, okTr0_5 t1 t2 t3 t7 t8 q0 q1 q2 hnl hk m0 hi'.drew⟩, okTr0_6 t1 t2 t3 t7 t8 q0 q1 q2 hnl hk m0 hi'.drew⟩, okTr0_7 t1 t2 t3 t7 t8 q0 q1 q2 hnl hk m0 hi'.drew⟩, okTr0_8 t1 t2 t3 t7 t8 q0 q1 q2 hnl hk m0 hi'.drew⟩, okTr0_9 t1 t2 t3 t7 t8 q0 q1 q2 hnl hk m0 hi'.drew⟩, okTr0_10 t1 t2 t3 t7 t8 q0 q1 q2 hnl hk m0 hi'.drew⟩, okTr0_11 t1 t2 t3 t7 t8 q0 q1 q2 hnl hk m0 hi'.drew⟩, okTr0_12 t1 t2 t3 t7 t8 q0 q1 q2 hnl hk m0 hi'.drew⟩, okTr0_13 t1 t2 t3 t7 t8 q0 q1 q2 hnl hk m0 hi'.drew⟩, okTr0_14 t1 t2 t3 t7 t8 q0 q1 q2 hnl hk m0 hi'.drew⟩, okTr0_15 t1 t2 t3 t7 t8 q0 q1 q2 hnl hk m0 hi'.drew⟩, okTr0_16 t1 t2 t3 t7 t8 q0 q1 q2 hnl hk m0 hi'.drew⟩, okTr0_17 t1 t2 t3 t7 t8 q0 q1 q2 hnl hk m0 hi'.drew⟩, okTr0_18 t1 t2 t3 t7 t8 q0 q1 q2 hnl hk m0 hi'.drew⟩, okTr0_19 t1 t2 t3 t7 t8 q0 q1 q2 hnl hk m0 hi'.drew⟩, okTr0_20 t1 t2 t3 t7 t8 q0 q1 q2 hnl hk m0 hi'.drew⟩, okTr0_21 t1 t2 t3 t7 t8 q0 q1 q2 hnl hk m0 hi'.drew⟩, okTr0_22 t1 t2 t3 t7 t8 q0 q1 q2 hnl hk m0 hi'.drew⟩, okTr0_23 t1 t2 t3 t7 t8 q0 q1 q2 hnl hk m0 hi'.drew⟩, okTr0_24 t1 t2 t3 t7 t8 q0 q1 q2 hnl hk m0 hi'.drew⟩, okTr0_25 t1 t2 t3 t7 t8 q0 q1 q2 hnl hk m0 hi'.drew⟩, okTr0_26 t1 t2 t3 t7 t8 q0 q1 q2 hnl hk m0 hi'.drew⟩, okTr0_27 t1 t2 t3 t7 t8 q0 q1 q2 hnl hk m0 hi'.drew⟩, okTr0_28 t1 t2 t3 t7 t8 q0 q1 q2 hnl hk m0 hi'.drew⟩, okTr0_29 t1 t2 t3 t7 t8 q0 q1 q2 hnl hk m0 hi'.drew⟩
noncomputable def opsTr1 : Array Oper := (Try.f22.body.bind (regionOf 7)).getD #[]
def wordsTr1 (b1 o1 b2 o2 b3 k jn : Nat) (A : Option Addr) (nl c n1 c1 n2 c2 : Nat) (o t la dy : Int) (mv : Bool) : Words := [fun v _ => v = .slice (some ⟨b1, o1, none⟩) n1 c1, fun v _ => v = .int .i64 k, fun v _ => v = .pointer (some ⟨b1, o1 + k, none⟩), fun v _ => v = .int .i64 jn, fun v _ => v = .pointer (some ⟨b3, 2, none⟩), fun v _ => v = .slice A nl c, fun v _ => v = .int .i64 nl, fun v _ => v = .int .i64 (nl - 1), fun v _ => v = .bool true, fun v _ => v = .bool false, fun v _ => v = .bool false, fun v _ => v = .agg #[.int .i64 o, .int .i64 t, .slice A nl c], fun v _ => v = .slice (some ⟨b1, o1, none⟩) n1 c1, fun v _ => v = .int .i64 k, fun v _ => v = .slice (some ⟨b1, o1, none⟩) k c1, fun v _ => v = .int .i64 la, fun v _ => v = .slice (some ⟨b1, o1, none⟩) n1 c1, fun v _ => v = .int .i64 k, fun v _ => v = .pointer (some ⟨b1, o1 + k, none⟩), fun v _ => v = .int .i64 jn, fun v _ => v = .slice (some ⟨b2, o2, none⟩) n2 c2, fun v _ => v = .slice (some ⟨b1, o1, none⟩) n1 c1, fun v _ => v = .int .i64 k, fun v _ => v = .pointer (some ⟨b1, o1 + k, none⟩), fun v _ => v = .int .i64 jn, fun v _ => v = .pointer (some ⟨b2, o2 + jn, none⟩), fun v _ => v = .int .i64 dy, fun v _ => v = .bool mv, fun v _ => v = .bool (!mv), fun v _ => v = .bool (!mv)]
theorem okTr1_0 {b1 o1 b2 o2 b3 k jn : Nat} {A : Option Addr} {nl c n1 c1 n2 c2 : Nat} {o t la dy : Int} {mv : Bool} {a : Act} {w : World} (t1 : a.eval (.tmp 1) = .slice (some ⟨b1, o1, none⟩) n1 c1) (t2 : a.eval (.tmp 2) = .slice (some ⟨b2, o2, none⟩) n2 c2) (t3 : a.eval (.tmp 3) = .pointer (some ⟨b3, 0, none⟩)) (t7 : a.eval (.tmp 7) = .int .i64 la) (t8 : a.eval (.tmp 8) = .int .i64 k) (q0 : w.cell? ⟨b3, 0, none⟩ = some (.int .i64 o)) (q1 : w.cell? ⟨b3, 1, none⟩ = some (.int .i64 t)) (q2 : w.cell? ⟨b3, 2, none⟩ = some (.slice A nl c)) (hnl : nl ≤ 12) (hk : k < n1) (m0 : w.cell? ⟨b1, o1 + k, none⟩ = some (.int .i64 jn)) (hi' : CV w 31 #[.int .i64 jn, .int .i64 0, .int .i64 (nl - 1)] (.bool true)) (m1 : w.cell? ⟨b2, o2 + jn, none⟩ = some (.int .i64 dy)) (hj : jn < n2) (hkc : k ≤ c1) (hm' : CV w 52 #[.agg #[.int .i64 o, .int .i64 t, .slice A nl c], .slice (some ⟨b1, o1, none⟩) k c1, .int .i64 la, .int .i64 jn, .int .i64 dy] (.bool mv)) : OpOk Try.prog opsTr1 (wordsTr1 b1 o1 b2 o2 b3 k jn A nl c n1 c1 n2 c2 o t la dy mv) 66 a w 0 := by
  refine OpOk.gen rfl (fun a1 w1 H => ?_)
  have e1 : a1.eval (.tmp 1) = .slice (some ⟨b1, o1, none⟩) n1 c1 := (H.out 1 (by kernel_rfl)).trans t1
  refine gd_none ?_
  exact OpW.move e1 rfl
theorem okTr1_1 {b1 o1 b2 o2 b3 k jn : Nat} {A : Option Addr} {nl c n1 c1 n2 c2 : Nat} {o t la dy : Int} {mv : Bool} {a : Act} {w : World} (t1 : a.eval (.tmp 1) = .slice (some ⟨b1, o1, none⟩) n1 c1) (t2 : a.eval (.tmp 2) = .slice (some ⟨b2, o2, none⟩) n2 c2) (t3 : a.eval (.tmp 3) = .pointer (some ⟨b3, 0, none⟩)) (t7 : a.eval (.tmp 7) = .int .i64 la) (t8 : a.eval (.tmp 8) = .int .i64 k) (q0 : w.cell? ⟨b3, 0, none⟩ = some (.int .i64 o)) (q1 : w.cell? ⟨b3, 1, none⟩ = some (.int .i64 t)) (q2 : w.cell? ⟨b3, 2, none⟩ = some (.slice A nl c)) (hnl : nl ≤ 12) (hk : k < n1) (m0 : w.cell? ⟨b1, o1 + k, none⟩ = some (.int .i64 jn)) (hi' : CV w 31 #[.int .i64 jn, .int .i64 0, .int .i64 (nl - 1)] (.bool true)) (m1 : w.cell? ⟨b2, o2 + jn, none⟩ = some (.int .i64 dy)) (hj : jn < n2) (hkc : k ≤ c1) (hm' : CV w 52 #[.agg #[.int .i64 o, .int .i64 t, .slice A nl c], .slice (some ⟨b1, o1, none⟩) k c1, .int .i64 la, .int .i64 jn, .int .i64 dy] (.bool mv)) : OpOk Try.prog opsTr1 (wordsTr1 b1 o1 b2 o2 b3 k jn A nl c n1 c1 n2 c2 o t la dy mv) 66 a w 1 := by
  refine OpOk.gen rfl (fun a1 w1 H => ?_)
  have e8 : a1.eval (.tmp 8) = .int .i64 k := (H.out 8 (by kernel_rfl)).trans t8
  refine gd_none ?_
  exact OpW.move e8 rfl
theorem okTr1_2 {b1 o1 b2 o2 b3 k jn : Nat} {A : Option Addr} {nl c n1 c1 n2 c2 : Nat} {o t la dy : Int} {mv : Bool} {a : Act} {w : World} (t1 : a.eval (.tmp 1) = .slice (some ⟨b1, o1, none⟩) n1 c1) (t2 : a.eval (.tmp 2) = .slice (some ⟨b2, o2, none⟩) n2 c2) (t3 : a.eval (.tmp 3) = .pointer (some ⟨b3, 0, none⟩)) (t7 : a.eval (.tmp 7) = .int .i64 la) (t8 : a.eval (.tmp 8) = .int .i64 k) (q0 : w.cell? ⟨b3, 0, none⟩ = some (.int .i64 o)) (q1 : w.cell? ⟨b3, 1, none⟩ = some (.int .i64 t)) (q2 : w.cell? ⟨b3, 2, none⟩ = some (.slice A nl c)) (hnl : nl ≤ 12) (hk : k < n1) (m0 : w.cell? ⟨b1, o1 + k, none⟩ = some (.int .i64 jn)) (hi' : CV w 31 #[.int .i64 jn, .int .i64 0, .int .i64 (nl - 1)] (.bool true)) (m1 : w.cell? ⟨b2, o2 + jn, none⟩ = some (.int .i64 dy)) (hj : jn < n2) (hkc : k ≤ c1) (hm' : CV w 52 #[.agg #[.int .i64 o, .int .i64 t, .slice A nl c], .slice (some ⟨b1, o1, none⟩) k c1, .int .i64 la, .int .i64 jn, .int .i64 dy] (.bool mv)) : OpOk Try.prog opsTr1 (wordsTr1 b1 o1 b2 o2 b3 k jn A nl c n1 c1 n2 c2 o t la dy mv) 66 a w 2 := by
  refine OpOk.gen rfl (fun a1 w1 H => ?_)
  have d0 : a1.eval (.tmp 29) = .slice (some ⟨b1, o1, none⟩) n1 c1 := H.dep 0 29 rfl (by kernel_rfl)
  have d1 : a1.eval (.tmp 30) = .int .i64 k := H.dep 1 30 rfl (by kernel_rfl)
  refine gd_none ?_
  exact OpW.index d0 d1 (ix25o hk _) rfl
theorem okTr1_3 {b1 o1 b2 o2 b3 k jn : Nat} {A : Option Addr} {nl c n1 c1 n2 c2 : Nat} {o t la dy : Int} {mv : Bool} {a : Act} {w : World} (t1 : a.eval (.tmp 1) = .slice (some ⟨b1, o1, none⟩) n1 c1) (t2 : a.eval (.tmp 2) = .slice (some ⟨b2, o2, none⟩) n2 c2) (t3 : a.eval (.tmp 3) = .pointer (some ⟨b3, 0, none⟩)) (t7 : a.eval (.tmp 7) = .int .i64 la) (t8 : a.eval (.tmp 8) = .int .i64 k) (q0 : w.cell? ⟨b3, 0, none⟩ = some (.int .i64 o)) (q1 : w.cell? ⟨b3, 1, none⟩ = some (.int .i64 t)) (q2 : w.cell? ⟨b3, 2, none⟩ = some (.slice A nl c)) (hnl : nl ≤ 12) (hk : k < n1) (m0 : w.cell? ⟨b1, o1 + k, none⟩ = some (.int .i64 jn)) (hi' : CV w 31 #[.int .i64 jn, .int .i64 0, .int .i64 (nl - 1)] (.bool true)) (m1 : w.cell? ⟨b2, o2 + jn, none⟩ = some (.int .i64 dy)) (hj : jn < n2) (hkc : k ≤ c1) (hm' : CV w 52 #[.agg #[.int .i64 o, .int .i64 t, .slice A nl c], .slice (some ⟨b1, o1, none⟩) k c1, .int .i64 la, .int .i64 jn, .int .i64 dy] (.bool mv)) : OpOk Try.prog opsTr1 (wordsTr1 b1 o1 b2 o2 b3 k jn A nl c n1 c1 n2 c2 o t la dy mv) 66 a w 3 := by
  refine OpOk.gen rfl (fun a1 w1 H => ?_)
  have d2 : a1.eval (.tmp 31) = .pointer (some ⟨b1, o1 + k, none⟩) := H.dep 2 31 rfl (by kernel_rfl)
  refine gd_none ?_
  exact OpW.load d2 (ld3 (H.cell m0)) rfl
theorem okTr1_4 {b1 o1 b2 o2 b3 k jn : Nat} {A : Option Addr} {nl c n1 c1 n2 c2 : Nat} {o t la dy : Int} {mv : Bool} {a : Act} {w : World} (t1 : a.eval (.tmp 1) = .slice (some ⟨b1, o1, none⟩) n1 c1) (t2 : a.eval (.tmp 2) = .slice (some ⟨b2, o2, none⟩) n2 c2) (t3 : a.eval (.tmp 3) = .pointer (some ⟨b3, 0, none⟩)) (t7 : a.eval (.tmp 7) = .int .i64 la) (t8 : a.eval (.tmp 8) = .int .i64 k) (q0 : w.cell? ⟨b3, 0, none⟩ = some (.int .i64 o)) (q1 : w.cell? ⟨b3, 1, none⟩ = some (.int .i64 t)) (q2 : w.cell? ⟨b3, 2, none⟩ = some (.slice A nl c)) (hnl : nl ≤ 12) (hk : k < n1) (m0 : w.cell? ⟨b1, o1 + k, none⟩ = some (.int .i64 jn)) (hi' : CV w 31 #[.int .i64 jn, .int .i64 0, .int .i64 (nl - 1)] (.bool true)) (m1 : w.cell? ⟨b2, o2 + jn, none⟩ = some (.int .i64 dy)) (hj : jn < n2) (hkc : k ≤ c1) (hm' : CV w 52 #[.agg #[.int .i64 o, .int .i64 t, .slice A nl c], .slice (some ⟨b1, o1, none⟩) k c1, .int .i64 la, .int .i64 jn, .int .i64 dy] (.bool mv)) : OpOk Try.prog opsTr1 (wordsTr1 b1 o1 b2 o2 b3 k jn A nl c n1 c1 n2 c2 o t la dy mv) 66 a w 4 := by
  refine OpOk.gen rfl (fun a1 w1 H => ?_)
  have e3 : a1.eval (.tmp 3) = .pointer (some ⟨b3, 0, none⟩) := (H.out 3 (by kernel_rfl)).trans t3
  refine gd_none ?_
  exact OpW.field e3 (fa24_2 _) rfl
theorem okTr1_5 {b1 o1 b2 o2 b3 k jn : Nat} {A : Option Addr} {nl c n1 c1 n2 c2 : Nat} {o t la dy : Int} {mv : Bool} {a : Act} {w : World} (t1 : a.eval (.tmp 1) = .slice (some ⟨b1, o1, none⟩) n1 c1) (t2 : a.eval (.tmp 2) = .slice (some ⟨b2, o2, none⟩) n2 c2) (t3 : a.eval (.tmp 3) = .pointer (some ⟨b3, 0, none⟩)) (t7 : a.eval (.tmp 7) = .int .i64 la) (t8 : a.eval (.tmp 8) = .int .i64 k) (q0 : w.cell? ⟨b3, 0, none⟩ = some (.int .i64 o)) (q1 : w.cell? ⟨b3, 1, none⟩ = some (.int .i64 t)) (q2 : w.cell? ⟨b3, 2, none⟩ = some (.slice A nl c)) (hnl : nl ≤ 12) (hk : k < n1) (m0 : w.cell? ⟨b1, o1 + k, none⟩ = some (.int .i64 jn)) (hi' : CV w 31 #[.int .i64 jn, .int .i64 0, .int .i64 (nl - 1)] (.bool true)) (m1 : w.cell? ⟨b2, o2 + jn, none⟩ = some (.int .i64 dy)) (hj : jn < n2) (hkc : k ≤ c1) (hm' : CV w 52 #[.agg #[.int .i64 o, .int .i64 t, .slice A nl c], .slice (some ⟨b1, o1, none⟩) k c1, .int .i64 la, .int .i64 jn, .int .i64 dy] (.bool mv)) : OpOk Try.prog opsTr1 (wordsTr1 b1 o1 b2 o2 b3 k jn A nl c n1 c1 n2 c2 o t la dy mv) 66 a w 5 := by
  refine OpOk.gen rfl (fun a1 w1 H => ?_)
  have d4 : a1.eval (.tmp 33) = .pointer (some ⟨b3, 2, none⟩) := H.dep 4 33 rfl (by kernel_rfl)
  refine gd_none ?_
  exact OpW.load d4 (ld22 (H.cell q2)) rfl
theorem okTr1_6 {b1 o1 b2 o2 b3 k jn : Nat} {A : Option Addr} {nl c n1 c1 n2 c2 : Nat} {o t la dy : Int} {mv : Bool} {a : Act} {w : World} (t1 : a.eval (.tmp 1) = .slice (some ⟨b1, o1, none⟩) n1 c1) (t2 : a.eval (.tmp 2) = .slice (some ⟨b2, o2, none⟩) n2 c2) (t3 : a.eval (.tmp 3) = .pointer (some ⟨b3, 0, none⟩)) (t7 : a.eval (.tmp 7) = .int .i64 la) (t8 : a.eval (.tmp 8) = .int .i64 k) (q0 : w.cell? ⟨b3, 0, none⟩ = some (.int .i64 o)) (q1 : w.cell? ⟨b3, 1, none⟩ = some (.int .i64 t)) (q2 : w.cell? ⟨b3, 2, none⟩ = some (.slice A nl c)) (hnl : nl ≤ 12) (hk : k < n1) (m0 : w.cell? ⟨b1, o1 + k, none⟩ = some (.int .i64 jn)) (hi' : CV w 31 #[.int .i64 jn, .int .i64 0, .int .i64 (nl - 1)] (.bool true)) (m1 : w.cell? ⟨b2, o2 + jn, none⟩ = some (.int .i64 dy)) (hj : jn < n2) (hkc : k ≤ c1) (hm' : CV w 52 #[.agg #[.int .i64 o, .int .i64 t, .slice A nl c], .slice (some ⟨b1, o1, none⟩) k c1, .int .i64 la, .int .i64 jn, .int .i64 dy] (.bool mv)) : OpOk Try.prog opsTr1 (wordsTr1 b1 o1 b2 o2 b3 k jn A nl c n1 c1 n2 c2 o t la dy mv) 66 a w 6 := by
  refine OpOk.gen rfl (fun a1 w1 H => ?_)
  have d5 : a1.eval (.tmp 34) = .slice A nl c := H.dep 5 34 rfl (by kernel_rfl)
  refine gd_none ?_
  exact OpW.len d5 (ln22 _ _ _ _ _) rfl rfl
theorem okTr1_7 {b1 o1 b2 o2 b3 k jn : Nat} {A : Option Addr} {nl c n1 c1 n2 c2 : Nat} {o t la dy : Int} {mv : Bool} {a : Act} {w : World} (t1 : a.eval (.tmp 1) = .slice (some ⟨b1, o1, none⟩) n1 c1) (t2 : a.eval (.tmp 2) = .slice (some ⟨b2, o2, none⟩) n2 c2) (t3 : a.eval (.tmp 3) = .pointer (some ⟨b3, 0, none⟩)) (t7 : a.eval (.tmp 7) = .int .i64 la) (t8 : a.eval (.tmp 8) = .int .i64 k) (q0 : w.cell? ⟨b3, 0, none⟩ = some (.int .i64 o)) (q1 : w.cell? ⟨b3, 1, none⟩ = some (.int .i64 t)) (q2 : w.cell? ⟨b3, 2, none⟩ = some (.slice A nl c)) (hnl : nl ≤ 12) (hk : k < n1) (m0 : w.cell? ⟨b1, o1 + k, none⟩ = some (.int .i64 jn)) (hi' : CV w 31 #[.int .i64 jn, .int .i64 0, .int .i64 (nl - 1)] (.bool true)) (m1 : w.cell? ⟨b2, o2 + jn, none⟩ = some (.int .i64 dy)) (hj : jn < n2) (hkc : k ≤ c1) (hm' : CV w 52 #[.agg #[.int .i64 o, .int .i64 t, .slice A nl c], .slice (some ⟨b1, o1, none⟩) k c1, .int .i64 la, .int .i64 jn, .int .i64 dy] (.bool mv)) : OpOk Try.prog opsTr1 (wordsTr1 b1 o1 b2 o2 b3 k jn A nl c n1 c1 n2 c2 o t la dy mv) 66 a w 7 := by
  refine OpOk.gen rfl (fun a1 w1 H => ?_)
  have d6 : a1.eval (.tmp 35) = .int .i64 nl := H.dep 6 35 rfl (by kernel_rfl)
  refine gd_none ?_
  exact OpW.bin d6 rfl (sub3 (by omega) (by omega) _) rfl
theorem okTr1_8 {b1 o1 b2 o2 b3 k jn : Nat} {A : Option Addr} {nl c n1 c1 n2 c2 : Nat} {o t la dy : Int} {mv : Bool} {a : Act} {w : World} (t1 : a.eval (.tmp 1) = .slice (some ⟨b1, o1, none⟩) n1 c1) (t2 : a.eval (.tmp 2) = .slice (some ⟨b2, o2, none⟩) n2 c2) (t3 : a.eval (.tmp 3) = .pointer (some ⟨b3, 0, none⟩)) (t7 : a.eval (.tmp 7) = .int .i64 la) (t8 : a.eval (.tmp 8) = .int .i64 k) (q0 : w.cell? ⟨b3, 0, none⟩ = some (.int .i64 o)) (q1 : w.cell? ⟨b3, 1, none⟩ = some (.int .i64 t)) (q2 : w.cell? ⟨b3, 2, none⟩ = some (.slice A nl c)) (hnl : nl ≤ 12) (hk : k < n1) (m0 : w.cell? ⟨b1, o1 + k, none⟩ = some (.int .i64 jn)) (hi' : CV w 31 #[.int .i64 jn, .int .i64 0, .int .i64 (nl - 1)] (.bool true)) (m1 : w.cell? ⟨b2, o2 + jn, none⟩ = some (.int .i64 dy)) (hj : jn < n2) (hkc : k ≤ c1) (hm' : CV w 52 #[.agg #[.int .i64 o, .int .i64 t, .slice A nl c], .slice (some ⟨b1, o1, none⟩) k c1, .int .i64 la, .int .i64 jn, .int .i64 dy] (.bool mv)) : OpOk Try.prog opsTr1 (wordsTr1 b1 o1 b2 o2 b3 k jn A nl c n1 c1 n2 c2 o t la dy mv) 66 a w 8 := by
  refine OpOk.gen rfl (fun a1 w1 H => ?_)
  have d3 : a1.eval (.tmp 32) = .int .i64 jn := H.dep 3 32 rfl (by kernel_rfl)
  have d7 : a1.eval (.tmp 36) = .int .i64 (nl - 1) := H.dep 7 36 rfl (by kernel_rfl)
  refine gd_none ?_
  exact OpW.call (vs := #[.int .i64 jn, .int .i64 0, .int .i64 (nl - 1)]) (enters_of Try.func31 (by kernel_rfl) rfl) (by simp [d3, d7]) (hi' w1 H.low)
theorem okTr1_9 {b1 o1 b2 o2 b3 k jn : Nat} {A : Option Addr} {nl c n1 c1 n2 c2 : Nat} {o t la dy : Int} {mv : Bool} {a : Act} {w : World} (t1 : a.eval (.tmp 1) = .slice (some ⟨b1, o1, none⟩) n1 c1) (t2 : a.eval (.tmp 2) = .slice (some ⟨b2, o2, none⟩) n2 c2) (t3 : a.eval (.tmp 3) = .pointer (some ⟨b3, 0, none⟩)) (t7 : a.eval (.tmp 7) = .int .i64 la) (t8 : a.eval (.tmp 8) = .int .i64 k) (q0 : w.cell? ⟨b3, 0, none⟩ = some (.int .i64 o)) (q1 : w.cell? ⟨b3, 1, none⟩ = some (.int .i64 t)) (q2 : w.cell? ⟨b3, 2, none⟩ = some (.slice A nl c)) (hnl : nl ≤ 12) (hk : k < n1) (m0 : w.cell? ⟨b1, o1 + k, none⟩ = some (.int .i64 jn)) (hi' : CV w 31 #[.int .i64 jn, .int .i64 0, .int .i64 (nl - 1)] (.bool true)) (m1 : w.cell? ⟨b2, o2 + jn, none⟩ = some (.int .i64 dy)) (hj : jn < n2) (hkc : k ≤ c1) (hm' : CV w 52 #[.agg #[.int .i64 o, .int .i64 t, .slice A nl c], .slice (some ⟨b1, o1, none⟩) k c1, .int .i64 la, .int .i64 jn, .int .i64 dy] (.bool mv)) : OpOk Try.prog opsTr1 (wordsTr1 b1 o1 b2 o2 b3 k jn A nl c n1 c1 n2 c2 o t la dy mv) 66 a w 9 := by
  refine OpOk.gen rfl (fun a1 w1 H => ?_)
  have d8 : a1.eval (.tmp 37) = .bool true := H.dep 8 37 rfl (by kernel_rfl)
  refine gd_none ?_
  exact OpW.un d8 (not4 _ _) rfl
theorem okTr1_10 {b1 o1 b2 o2 b3 k jn : Nat} {A : Option Addr} {nl c n1 c1 n2 c2 : Nat} {o t la dy : Int} {mv : Bool} {a : Act} {w : World} (t1 : a.eval (.tmp 1) = .slice (some ⟨b1, o1, none⟩) n1 c1) (t2 : a.eval (.tmp 2) = .slice (some ⟨b2, o2, none⟩) n2 c2) (t3 : a.eval (.tmp 3) = .pointer (some ⟨b3, 0, none⟩)) (t7 : a.eval (.tmp 7) = .int .i64 la) (t8 : a.eval (.tmp 8) = .int .i64 k) (q0 : w.cell? ⟨b3, 0, none⟩ = some (.int .i64 o)) (q1 : w.cell? ⟨b3, 1, none⟩ = some (.int .i64 t)) (q2 : w.cell? ⟨b3, 2, none⟩ = some (.slice A nl c)) (hnl : nl ≤ 12) (hk : k < n1) (m0 : w.cell? ⟨b1, o1 + k, none⟩ = some (.int .i64 jn)) (hi' : CV w 31 #[.int .i64 jn, .int .i64 0, .int .i64 (nl - 1)] (.bool true)) (m1 : w.cell? ⟨b2, o2 + jn, none⟩ = some (.int .i64 dy)) (hj : jn < n2) (hkc : k ≤ c1) (hm' : CV w 52 #[.agg #[.int .i64 o, .int .i64 t, .slice A nl c], .slice (some ⟨b1, o1, none⟩) k c1, .int .i64 la, .int .i64 jn, .int .i64 dy] (.bool mv)) : OpOk Try.prog opsTr1 (wordsTr1 b1 o1 b2 o2 b3 k jn A nl c n1 c1 n2 c2 o t la dy mv) 66 a w 10 := by
  refine OpOk.gen rfl (fun a1 w1 H => ?_)
  have d9 : a1.eval (.tmp 38) = .bool false := H.dep 9 38 rfl (by kernel_rfl)
  refine gd_none ?_
  exact OpW.move d9 rfl
theorem okTr1_11 {b1 o1 b2 o2 b3 k jn : Nat} {A : Option Addr} {nl c n1 c1 n2 c2 : Nat} {o t la dy : Int} {mv : Bool} {a : Act} {w : World} (t1 : a.eval (.tmp 1) = .slice (some ⟨b1, o1, none⟩) n1 c1) (t2 : a.eval (.tmp 2) = .slice (some ⟨b2, o2, none⟩) n2 c2) (t3 : a.eval (.tmp 3) = .pointer (some ⟨b3, 0, none⟩)) (t7 : a.eval (.tmp 7) = .int .i64 la) (t8 : a.eval (.tmp 8) = .int .i64 k) (q0 : w.cell? ⟨b3, 0, none⟩ = some (.int .i64 o)) (q1 : w.cell? ⟨b3, 1, none⟩ = some (.int .i64 t)) (q2 : w.cell? ⟨b3, 2, none⟩ = some (.slice A nl c)) (hnl : nl ≤ 12) (hk : k < n1) (m0 : w.cell? ⟨b1, o1 + k, none⟩ = some (.int .i64 jn)) (hi' : CV w 31 #[.int .i64 jn, .int .i64 0, .int .i64 (nl - 1)] (.bool true)) (m1 : w.cell? ⟨b2, o2 + jn, none⟩ = some (.int .i64 dy)) (hj : jn < n2) (hkc : k ≤ c1) (hm' : CV w 52 #[.agg #[.int .i64 o, .int .i64 t, .slice A nl c], .slice (some ⟨b1, o1, none⟩) k c1, .int .i64 la, .int .i64 jn, .int .i64 dy] (.bool mv)) : OpOk Try.prog opsTr1 (wordsTr1 b1 o1 b2 o2 b3 k jn A nl c n1 c1 n2 c2 o t la dy mv) 66 a w 11 := by
  refine OpOk.gen rfl (fun a1 w1 H => ?_)
  have d10 : a1.eval (.tmp 39) = .bool false := H.dep 10 39 rfl (by kernel_rfl)
  have e3 : a1.eval (.tmp 3) = .pointer (some ⟨b3, 0, none⟩) := (H.out 3 (by kernel_rfl)).trans t3
  refine gd_true rfl d10 ?_
  exact OpW.load e3 (ld24 ⟨H.cell q0, H.cell q1, H.cell q2⟩) rfl
theorem okTr1_12 {b1 o1 b2 o2 b3 k jn : Nat} {A : Option Addr} {nl c n1 c1 n2 c2 : Nat} {o t la dy : Int} {mv : Bool} {a : Act} {w : World} (t1 : a.eval (.tmp 1) = .slice (some ⟨b1, o1, none⟩) n1 c1) (t2 : a.eval (.tmp 2) = .slice (some ⟨b2, o2, none⟩) n2 c2) (t3 : a.eval (.tmp 3) = .pointer (some ⟨b3, 0, none⟩)) (t7 : a.eval (.tmp 7) = .int .i64 la) (t8 : a.eval (.tmp 8) = .int .i64 k) (q0 : w.cell? ⟨b3, 0, none⟩ = some (.int .i64 o)) (q1 : w.cell? ⟨b3, 1, none⟩ = some (.int .i64 t)) (q2 : w.cell? ⟨b3, 2, none⟩ = some (.slice A nl c)) (hnl : nl ≤ 12) (hk : k < n1) (m0 : w.cell? ⟨b1, o1 + k, none⟩ = some (.int .i64 jn)) (hi' : CV w 31 #[.int .i64 jn, .int .i64 0, .int .i64 (nl - 1)] (.bool true)) (m1 : w.cell? ⟨b2, o2 + jn, none⟩ = some (.int .i64 dy)) (hj : jn < n2) (hkc : k ≤ c1) (hm' : CV w 52 #[.agg #[.int .i64 o, .int .i64 t, .slice A nl c], .slice (some ⟨b1, o1, none⟩) k c1, .int .i64 la, .int .i64 jn, .int .i64 dy] (.bool mv)) : OpOk Try.prog opsTr1 (wordsTr1 b1 o1 b2 o2 b3 k jn A nl c n1 c1 n2 c2 o t la dy mv) 66 a w 12 := by
  refine OpOk.gen rfl (fun a1 w1 H => ?_)
  have d10 : a1.eval (.tmp 39) = .bool false := H.dep 10 39 rfl (by kernel_rfl)
  have e1 : a1.eval (.tmp 1) = .slice (some ⟨b1, o1, none⟩) n1 c1 := (H.out 1 (by kernel_rfl)).trans t1
  refine gd_true rfl d10 ?_
  exact OpW.move e1 rfl
theorem okTr1_13 {b1 o1 b2 o2 b3 k jn : Nat} {A : Option Addr} {nl c n1 c1 n2 c2 : Nat} {o t la dy : Int} {mv : Bool} {a : Act} {w : World} (t1 : a.eval (.tmp 1) = .slice (some ⟨b1, o1, none⟩) n1 c1) (t2 : a.eval (.tmp 2) = .slice (some ⟨b2, o2, none⟩) n2 c2) (t3 : a.eval (.tmp 3) = .pointer (some ⟨b3, 0, none⟩)) (t7 : a.eval (.tmp 7) = .int .i64 la) (t8 : a.eval (.tmp 8) = .int .i64 k) (q0 : w.cell? ⟨b3, 0, none⟩ = some (.int .i64 o)) (q1 : w.cell? ⟨b3, 1, none⟩ = some (.int .i64 t)) (q2 : w.cell? ⟨b3, 2, none⟩ = some (.slice A nl c)) (hnl : nl ≤ 12) (hk : k < n1) (m0 : w.cell? ⟨b1, o1 + k, none⟩ = some (.int .i64 jn)) (hi' : CV w 31 #[.int .i64 jn, .int .i64 0, .int .i64 (nl - 1)] (.bool true)) (m1 : w.cell? ⟨b2, o2 + jn, none⟩ = some (.int .i64 dy)) (hj : jn < n2) (hkc : k ≤ c1) (hm' : CV w 52 #[.agg #[.int .i64 o, .int .i64 t, .slice A nl c], .slice (some ⟨b1, o1, none⟩) k c1, .int .i64 la, .int .i64 jn, .int .i64 dy] (.bool mv)) : OpOk Try.prog opsTr1 (wordsTr1 b1 o1 b2 o2 b3 k jn A nl c n1 c1 n2 c2 o t la dy mv) 66 a w 13 := by
  refine OpOk.gen rfl (fun a1 w1 H => ?_)
  have d10 : a1.eval (.tmp 39) = .bool false := H.dep 10 39 rfl (by kernel_rfl)
  have e8 : a1.eval (.tmp 8) = .int .i64 k := (H.out 8 (by kernel_rfl)).trans t8
  refine gd_true rfl d10 ?_
  exact OpW.move e8 rfl
theorem okTr1_14 {b1 o1 b2 o2 b3 k jn : Nat} {A : Option Addr} {nl c n1 c1 n2 c2 : Nat} {o t la dy : Int} {mv : Bool} {a : Act} {w : World} (t1 : a.eval (.tmp 1) = .slice (some ⟨b1, o1, none⟩) n1 c1) (t2 : a.eval (.tmp 2) = .slice (some ⟨b2, o2, none⟩) n2 c2) (t3 : a.eval (.tmp 3) = .pointer (some ⟨b3, 0, none⟩)) (t7 : a.eval (.tmp 7) = .int .i64 la) (t8 : a.eval (.tmp 8) = .int .i64 k) (q0 : w.cell? ⟨b3, 0, none⟩ = some (.int .i64 o)) (q1 : w.cell? ⟨b3, 1, none⟩ = some (.int .i64 t)) (q2 : w.cell? ⟨b3, 2, none⟩ = some (.slice A nl c)) (hnl : nl ≤ 12) (hk : k < n1) (m0 : w.cell? ⟨b1, o1 + k, none⟩ = some (.int .i64 jn)) (hi' : CV w 31 #[.int .i64 jn, .int .i64 0, .int .i64 (nl - 1)] (.bool true)) (m1 : w.cell? ⟨b2, o2 + jn, none⟩ = some (.int .i64 dy)) (hj : jn < n2) (hkc : k ≤ c1) (hm' : CV w 52 #[.agg #[.int .i64 o, .int .i64 t, .slice A nl c], .slice (some ⟨b1, o1, none⟩) k c1, .int .i64 la, .int .i64 jn, .int .i64 dy] (.bool mv)) : OpOk Try.prog opsTr1 (wordsTr1 b1 o1 b2 o2 b3 k jn A nl c n1 c1 n2 c2 o t la dy mv) 66 a w 14 := by
  refine OpOk.gen rfl (fun a1 w1 H => ?_)
  have d10 : a1.eval (.tmp 39) = .bool false := H.dep 10 39 rfl (by kernel_rfl)
  have d12 : a1.eval (.tmp 41) = .slice (some ⟨b1, o1, none⟩) n1 c1 := H.dep 12 41 rfl (by kernel_rfl)
  have d13 : a1.eval (.tmp 42) = .int .i64 k := H.dep 13 42 rfl (by kernel_rfl)
  refine gd_true rfl d10 ?_
  exact OpW.sliceH d12 d13 (sl25 hkc _) rfl
theorem okTr1_15 {b1 o1 b2 o2 b3 k jn : Nat} {A : Option Addr} {nl c n1 c1 n2 c2 : Nat} {o t la dy : Int} {mv : Bool} {a : Act} {w : World} (t1 : a.eval (.tmp 1) = .slice (some ⟨b1, o1, none⟩) n1 c1) (t2 : a.eval (.tmp 2) = .slice (some ⟨b2, o2, none⟩) n2 c2) (t3 : a.eval (.tmp 3) = .pointer (some ⟨b3, 0, none⟩)) (t7 : a.eval (.tmp 7) = .int .i64 la) (t8 : a.eval (.tmp 8) = .int .i64 k) (q0 : w.cell? ⟨b3, 0, none⟩ = some (.int .i64 o)) (q1 : w.cell? ⟨b3, 1, none⟩ = some (.int .i64 t)) (q2 : w.cell? ⟨b3, 2, none⟩ = some (.slice A nl c)) (hnl : nl ≤ 12) (hk : k < n1) (m0 : w.cell? ⟨b1, o1 + k, none⟩ = some (.int .i64 jn)) (hi' : CV w 31 #[.int .i64 jn, .int .i64 0, .int .i64 (nl - 1)] (.bool true)) (m1 : w.cell? ⟨b2, o2 + jn, none⟩ = some (.int .i64 dy)) (hj : jn < n2) (hkc : k ≤ c1) (hm' : CV w 52 #[.agg #[.int .i64 o, .int .i64 t, .slice A nl c], .slice (some ⟨b1, o1, none⟩) k c1, .int .i64 la, .int .i64 jn, .int .i64 dy] (.bool mv)) : OpOk Try.prog opsTr1 (wordsTr1 b1 o1 b2 o2 b3 k jn A nl c n1 c1 n2 c2 o t la dy mv) 66 a w 15 := by
  refine OpOk.gen rfl (fun a1 w1 H => ?_)
  have d10 : a1.eval (.tmp 39) = .bool false := H.dep 10 39 rfl (by kernel_rfl)
  have e7 : a1.eval (.tmp 7) = .int .i64 la := (H.out 7 (by kernel_rfl)).trans t7
  refine gd_true rfl d10 ?_
  exact OpW.move e7 rfl
theorem okTr1_16 {b1 o1 b2 o2 b3 k jn : Nat} {A : Option Addr} {nl c n1 c1 n2 c2 : Nat} {o t la dy : Int} {mv : Bool} {a : Act} {w : World} (t1 : a.eval (.tmp 1) = .slice (some ⟨b1, o1, none⟩) n1 c1) (t2 : a.eval (.tmp 2) = .slice (some ⟨b2, o2, none⟩) n2 c2) (t3 : a.eval (.tmp 3) = .pointer (some ⟨b3, 0, none⟩)) (t7 : a.eval (.tmp 7) = .int .i64 la) (t8 : a.eval (.tmp 8) = .int .i64 k) (q0 : w.cell? ⟨b3, 0, none⟩ = some (.int .i64 o)) (q1 : w.cell? ⟨b3, 1, none⟩ = some (.int .i64 t)) (q2 : w.cell? ⟨b3, 2, none⟩ = some (.slice A nl c)) (hnl : nl ≤ 12) (hk : k < n1) (m0 : w.cell? ⟨b1, o1 + k, none⟩ = some (.int .i64 jn)) (hi' : CV w 31 #[.int .i64 jn, .int .i64 0, .int .i64 (nl - 1)] (.bool true)) (m1 : w.cell? ⟨b2, o2 + jn, none⟩ = some (.int .i64 dy)) (hj : jn < n2) (hkc : k ≤ c1) (hm' : CV w 52 #[.agg #[.int .i64 o, .int .i64 t, .slice A nl c], .slice (some ⟨b1, o1, none⟩) k c1, .int .i64 la, .int .i64 jn, .int .i64 dy] (.bool mv)) : OpOk Try.prog opsTr1 (wordsTr1 b1 o1 b2 o2 b3 k jn A nl c n1 c1 n2 c2 o t la dy mv) 66 a w 16 := by
  refine OpOk.gen rfl (fun a1 w1 H => ?_)
  have d10 : a1.eval (.tmp 39) = .bool false := H.dep 10 39 rfl (by kernel_rfl)
  have e1 : a1.eval (.tmp 1) = .slice (some ⟨b1, o1, none⟩) n1 c1 := (H.out 1 (by kernel_rfl)).trans t1
  refine gd_true rfl d10 ?_
  exact OpW.move e1 rfl
theorem okTr1_17 {b1 o1 b2 o2 b3 k jn : Nat} {A : Option Addr} {nl c n1 c1 n2 c2 : Nat} {o t la dy : Int} {mv : Bool} {a : Act} {w : World} (t1 : a.eval (.tmp 1) = .slice (some ⟨b1, o1, none⟩) n1 c1) (t2 : a.eval (.tmp 2) = .slice (some ⟨b2, o2, none⟩) n2 c2) (t3 : a.eval (.tmp 3) = .pointer (some ⟨b3, 0, none⟩)) (t7 : a.eval (.tmp 7) = .int .i64 la) (t8 : a.eval (.tmp 8) = .int .i64 k) (q0 : w.cell? ⟨b3, 0, none⟩ = some (.int .i64 o)) (q1 : w.cell? ⟨b3, 1, none⟩ = some (.int .i64 t)) (q2 : w.cell? ⟨b3, 2, none⟩ = some (.slice A nl c)) (hnl : nl ≤ 12) (hk : k < n1) (m0 : w.cell? ⟨b1, o1 + k, none⟩ = some (.int .i64 jn)) (hi' : CV w 31 #[.int .i64 jn, .int .i64 0, .int .i64 (nl - 1)] (.bool true)) (m1 : w.cell? ⟨b2, o2 + jn, none⟩ = some (.int .i64 dy)) (hj : jn < n2) (hkc : k ≤ c1) (hm' : CV w 52 #[.agg #[.int .i64 o, .int .i64 t, .slice A nl c], .slice (some ⟨b1, o1, none⟩) k c1, .int .i64 la, .int .i64 jn, .int .i64 dy] (.bool mv)) : OpOk Try.prog opsTr1 (wordsTr1 b1 o1 b2 o2 b3 k jn A nl c n1 c1 n2 c2 o t la dy mv) 66 a w 17 := by
  refine OpOk.gen rfl (fun a1 w1 H => ?_)
  have d10 : a1.eval (.tmp 39) = .bool false := H.dep 10 39 rfl (by kernel_rfl)
  have e8 : a1.eval (.tmp 8) = .int .i64 k := (H.out 8 (by kernel_rfl)).trans t8
  refine gd_true rfl d10 ?_
  exact OpW.move e8 rfl
theorem okTr1_18 {b1 o1 b2 o2 b3 k jn : Nat} {A : Option Addr} {nl c n1 c1 n2 c2 : Nat} {o t la dy : Int} {mv : Bool} {a : Act} {w : World} (t1 : a.eval (.tmp 1) = .slice (some ⟨b1, o1, none⟩) n1 c1) (t2 : a.eval (.tmp 2) = .slice (some ⟨b2, o2, none⟩) n2 c2) (t3 : a.eval (.tmp 3) = .pointer (some ⟨b3, 0, none⟩)) (t7 : a.eval (.tmp 7) = .int .i64 la) (t8 : a.eval (.tmp 8) = .int .i64 k) (q0 : w.cell? ⟨b3, 0, none⟩ = some (.int .i64 o)) (q1 : w.cell? ⟨b3, 1, none⟩ = some (.int .i64 t)) (q2 : w.cell? ⟨b3, 2, none⟩ = some (.slice A nl c)) (hnl : nl ≤ 12) (hk : k < n1) (m0 : w.cell? ⟨b1, o1 + k, none⟩ = some (.int .i64 jn)) (hi' : CV w 31 #[.int .i64 jn, .int .i64 0, .int .i64 (nl - 1)] (.bool true)) (m1 : w.cell? ⟨b2, o2 + jn, none⟩ = some (.int .i64 dy)) (hj : jn < n2) (hkc : k ≤ c1) (hm' : CV w 52 #[.agg #[.int .i64 o, .int .i64 t, .slice A nl c], .slice (some ⟨b1, o1, none⟩) k c1, .int .i64 la, .int .i64 jn, .int .i64 dy] (.bool mv)) : OpOk Try.prog opsTr1 (wordsTr1 b1 o1 b2 o2 b3 k jn A nl c n1 c1 n2 c2 o t la dy mv) 66 a w 18 := by
  refine OpOk.gen rfl (fun a1 w1 H => ?_)
  have d10 : a1.eval (.tmp 39) = .bool false := H.dep 10 39 rfl (by kernel_rfl)
  have d16 : a1.eval (.tmp 45) = .slice (some ⟨b1, o1, none⟩) n1 c1 := H.dep 16 45 rfl (by kernel_rfl)
  have d17 : a1.eval (.tmp 46) = .int .i64 k := H.dep 17 46 rfl (by kernel_rfl)
  refine gd_true rfl d10 ?_
  exact OpW.index d16 d17 (ix25o hk _) rfl
theorem okTr1_19 {b1 o1 b2 o2 b3 k jn : Nat} {A : Option Addr} {nl c n1 c1 n2 c2 : Nat} {o t la dy : Int} {mv : Bool} {a : Act} {w : World} (t1 : a.eval (.tmp 1) = .slice (some ⟨b1, o1, none⟩) n1 c1) (t2 : a.eval (.tmp 2) = .slice (some ⟨b2, o2, none⟩) n2 c2) (t3 : a.eval (.tmp 3) = .pointer (some ⟨b3, 0, none⟩)) (t7 : a.eval (.tmp 7) = .int .i64 la) (t8 : a.eval (.tmp 8) = .int .i64 k) (q0 : w.cell? ⟨b3, 0, none⟩ = some (.int .i64 o)) (q1 : w.cell? ⟨b3, 1, none⟩ = some (.int .i64 t)) (q2 : w.cell? ⟨b3, 2, none⟩ = some (.slice A nl c)) (hnl : nl ≤ 12) (hk : k < n1) (m0 : w.cell? ⟨b1, o1 + k, none⟩ = some (.int .i64 jn)) (hi' : CV w 31 #[.int .i64 jn, .int .i64 0, .int .i64 (nl - 1)] (.bool true)) (m1 : w.cell? ⟨b2, o2 + jn, none⟩ = some (.int .i64 dy)) (hj : jn < n2) (hkc : k ≤ c1) (hm' : CV w 52 #[.agg #[.int .i64 o, .int .i64 t, .slice A nl c], .slice (some ⟨b1, o1, none⟩) k c1, .int .i64 la, .int .i64 jn, .int .i64 dy] (.bool mv)) : OpOk Try.prog opsTr1 (wordsTr1 b1 o1 b2 o2 b3 k jn A nl c n1 c1 n2 c2 o t la dy mv) 66 a w 19 := by
  refine OpOk.gen rfl (fun a1 w1 H => ?_)
  have d10 : a1.eval (.tmp 39) = .bool false := H.dep 10 39 rfl (by kernel_rfl)
  have d18 : a1.eval (.tmp 47) = .pointer (some ⟨b1, o1 + k, none⟩) := H.dep 18 47 rfl (by kernel_rfl)
  refine gd_true rfl d10 ?_
  exact OpW.load d18 (ld3 (H.cell m0)) rfl
theorem okTr1_20 {b1 o1 b2 o2 b3 k jn : Nat} {A : Option Addr} {nl c n1 c1 n2 c2 : Nat} {o t la dy : Int} {mv : Bool} {a : Act} {w : World} (t1 : a.eval (.tmp 1) = .slice (some ⟨b1, o1, none⟩) n1 c1) (t2 : a.eval (.tmp 2) = .slice (some ⟨b2, o2, none⟩) n2 c2) (t3 : a.eval (.tmp 3) = .pointer (some ⟨b3, 0, none⟩)) (t7 : a.eval (.tmp 7) = .int .i64 la) (t8 : a.eval (.tmp 8) = .int .i64 k) (q0 : w.cell? ⟨b3, 0, none⟩ = some (.int .i64 o)) (q1 : w.cell? ⟨b3, 1, none⟩ = some (.int .i64 t)) (q2 : w.cell? ⟨b3, 2, none⟩ = some (.slice A nl c)) (hnl : nl ≤ 12) (hk : k < n1) (m0 : w.cell? ⟨b1, o1 + k, none⟩ = some (.int .i64 jn)) (hi' : CV w 31 #[.int .i64 jn, .int .i64 0, .int .i64 (nl - 1)] (.bool true)) (m1 : w.cell? ⟨b2, o2 + jn, none⟩ = some (.int .i64 dy)) (hj : jn < n2) (hkc : k ≤ c1) (hm' : CV w 52 #[.agg #[.int .i64 o, .int .i64 t, .slice A nl c], .slice (some ⟨b1, o1, none⟩) k c1, .int .i64 la, .int .i64 jn, .int .i64 dy] (.bool mv)) : OpOk Try.prog opsTr1 (wordsTr1 b1 o1 b2 o2 b3 k jn A nl c n1 c1 n2 c2 o t la dy mv) 66 a w 20 := by
  refine OpOk.gen rfl (fun a1 w1 H => ?_)
  have d10 : a1.eval (.tmp 39) = .bool false := H.dep 10 39 rfl (by kernel_rfl)
  have e2 : a1.eval (.tmp 2) = .slice (some ⟨b2, o2, none⟩) n2 c2 := (H.out 2 (by kernel_rfl)).trans t2
  refine gd_true rfl d10 ?_
  exact OpW.move e2 rfl
theorem okTr1_21 {b1 o1 b2 o2 b3 k jn : Nat} {A : Option Addr} {nl c n1 c1 n2 c2 : Nat} {o t la dy : Int} {mv : Bool} {a : Act} {w : World} (t1 : a.eval (.tmp 1) = .slice (some ⟨b1, o1, none⟩) n1 c1) (t2 : a.eval (.tmp 2) = .slice (some ⟨b2, o2, none⟩) n2 c2) (t3 : a.eval (.tmp 3) = .pointer (some ⟨b3, 0, none⟩)) (t7 : a.eval (.tmp 7) = .int .i64 la) (t8 : a.eval (.tmp 8) = .int .i64 k) (q0 : w.cell? ⟨b3, 0, none⟩ = some (.int .i64 o)) (q1 : w.cell? ⟨b3, 1, none⟩ = some (.int .i64 t)) (q2 : w.cell? ⟨b3, 2, none⟩ = some (.slice A nl c)) (hnl : nl ≤ 12) (hk : k < n1) (m0 : w.cell? ⟨b1, o1 + k, none⟩ = some (.int .i64 jn)) (hi' : CV w 31 #[.int .i64 jn, .int .i64 0, .int .i64 (nl - 1)] (.bool true)) (m1 : w.cell? ⟨b2, o2 + jn, none⟩ = some (.int .i64 dy)) (hj : jn < n2) (hkc : k ≤ c1) (hm' : CV w 52 #[.agg #[.int .i64 o, .int .i64 t, .slice A nl c], .slice (some ⟨b1, o1, none⟩) k c1, .int .i64 la, .int .i64 jn, .int .i64 dy] (.bool mv)) : OpOk Try.prog opsTr1 (wordsTr1 b1 o1 b2 o2 b3 k jn A nl c n1 c1 n2 c2 o t la dy mv) 66 a w 21 := by
  refine OpOk.gen rfl (fun a1 w1 H => ?_)
  have d10 : a1.eval (.tmp 39) = .bool false := H.dep 10 39 rfl (by kernel_rfl)
  have e1 : a1.eval (.tmp 1) = .slice (some ⟨b1, o1, none⟩) n1 c1 := (H.out 1 (by kernel_rfl)).trans t1
  refine gd_true rfl d10 ?_
  exact OpW.move e1 rfl
theorem okTr1_22 {b1 o1 b2 o2 b3 k jn : Nat} {A : Option Addr} {nl c n1 c1 n2 c2 : Nat} {o t la dy : Int} {mv : Bool} {a : Act} {w : World} (t1 : a.eval (.tmp 1) = .slice (some ⟨b1, o1, none⟩) n1 c1) (t2 : a.eval (.tmp 2) = .slice (some ⟨b2, o2, none⟩) n2 c2) (t3 : a.eval (.tmp 3) = .pointer (some ⟨b3, 0, none⟩)) (t7 : a.eval (.tmp 7) = .int .i64 la) (t8 : a.eval (.tmp 8) = .int .i64 k) (q0 : w.cell? ⟨b3, 0, none⟩ = some (.int .i64 o)) (q1 : w.cell? ⟨b3, 1, none⟩ = some (.int .i64 t)) (q2 : w.cell? ⟨b3, 2, none⟩ = some (.slice A nl c)) (hnl : nl ≤ 12) (hk : k < n1) (m0 : w.cell? ⟨b1, o1 + k, none⟩ = some (.int .i64 jn)) (hi' : CV w 31 #[.int .i64 jn, .int .i64 0, .int .i64 (nl - 1)] (.bool true)) (m1 : w.cell? ⟨b2, o2 + jn, none⟩ = some (.int .i64 dy)) (hj : jn < n2) (hkc : k ≤ c1) (hm' : CV w 52 #[.agg #[.int .i64 o, .int .i64 t, .slice A nl c], .slice (some ⟨b1, o1, none⟩) k c1, .int .i64 la, .int .i64 jn, .int .i64 dy] (.bool mv)) : OpOk Try.prog opsTr1 (wordsTr1 b1 o1 b2 o2 b3 k jn A nl c n1 c1 n2 c2 o t la dy mv) 66 a w 22 := by
  refine OpOk.gen rfl (fun a1 w1 H => ?_)
  have d10 : a1.eval (.tmp 39) = .bool false := H.dep 10 39 rfl (by kernel_rfl)
  have e8 : a1.eval (.tmp 8) = .int .i64 k := (H.out 8 (by kernel_rfl)).trans t8
  refine gd_true rfl d10 ?_
  exact OpW.move e8 rfl
theorem okTr1_23 {b1 o1 b2 o2 b3 k jn : Nat} {A : Option Addr} {nl c n1 c1 n2 c2 : Nat} {o t la dy : Int} {mv : Bool} {a : Act} {w : World} (t1 : a.eval (.tmp 1) = .slice (some ⟨b1, o1, none⟩) n1 c1) (t2 : a.eval (.tmp 2) = .slice (some ⟨b2, o2, none⟩) n2 c2) (t3 : a.eval (.tmp 3) = .pointer (some ⟨b3, 0, none⟩)) (t7 : a.eval (.tmp 7) = .int .i64 la) (t8 : a.eval (.tmp 8) = .int .i64 k) (q0 : w.cell? ⟨b3, 0, none⟩ = some (.int .i64 o)) (q1 : w.cell? ⟨b3, 1, none⟩ = some (.int .i64 t)) (q2 : w.cell? ⟨b3, 2, none⟩ = some (.slice A nl c)) (hnl : nl ≤ 12) (hk : k < n1) (m0 : w.cell? ⟨b1, o1 + k, none⟩ = some (.int .i64 jn)) (hi' : CV w 31 #[.int .i64 jn, .int .i64 0, .int .i64 (nl - 1)] (.bool true)) (m1 : w.cell? ⟨b2, o2 + jn, none⟩ = some (.int .i64 dy)) (hj : jn < n2) (hkc : k ≤ c1) (hm' : CV w 52 #[.agg #[.int .i64 o, .int .i64 t, .slice A nl c], .slice (some ⟨b1, o1, none⟩) k c1, .int .i64 la, .int .i64 jn, .int .i64 dy] (.bool mv)) : OpOk Try.prog opsTr1 (wordsTr1 b1 o1 b2 o2 b3 k jn A nl c n1 c1 n2 c2 o t la dy mv) 66 a w 23 := by
  refine OpOk.gen rfl (fun a1 w1 H => ?_)
  have d10 : a1.eval (.tmp 39) = .bool false := H.dep 10 39 rfl (by kernel_rfl)
  have d21 : a1.eval (.tmp 50) = .slice (some ⟨b1, o1, none⟩) n1 c1 := H.dep 21 50 rfl (by kernel_rfl)
  have d22 : a1.eval (.tmp 51) = .int .i64 k := H.dep 22 51 rfl (by kernel_rfl)
  refine gd_true rfl d10 ?_
  exact OpW.index d21 d22 (ix25o hk _) rfl
theorem okTr1_24 {b1 o1 b2 o2 b3 k jn : Nat} {A : Option Addr} {nl c n1 c1 n2 c2 : Nat} {o t la dy : Int} {mv : Bool} {a : Act} {w : World} (t1 : a.eval (.tmp 1) = .slice (some ⟨b1, o1, none⟩) n1 c1) (t2 : a.eval (.tmp 2) = .slice (some ⟨b2, o2, none⟩) n2 c2) (t3 : a.eval (.tmp 3) = .pointer (some ⟨b3, 0, none⟩)) (t7 : a.eval (.tmp 7) = .int .i64 la) (t8 : a.eval (.tmp 8) = .int .i64 k) (q0 : w.cell? ⟨b3, 0, none⟩ = some (.int .i64 o)) (q1 : w.cell? ⟨b3, 1, none⟩ = some (.int .i64 t)) (q2 : w.cell? ⟨b3, 2, none⟩ = some (.slice A nl c)) (hnl : nl ≤ 12) (hk : k < n1) (m0 : w.cell? ⟨b1, o1 + k, none⟩ = some (.int .i64 jn)) (hi' : CV w 31 #[.int .i64 jn, .int .i64 0, .int .i64 (nl - 1)] (.bool true)) (m1 : w.cell? ⟨b2, o2 + jn, none⟩ = some (.int .i64 dy)) (hj : jn < n2) (hkc : k ≤ c1) (hm' : CV w 52 #[.agg #[.int .i64 o, .int .i64 t, .slice A nl c], .slice (some ⟨b1, o1, none⟩) k c1, .int .i64 la, .int .i64 jn, .int .i64 dy] (.bool mv)) : OpOk Try.prog opsTr1 (wordsTr1 b1 o1 b2 o2 b3 k jn A nl c n1 c1 n2 c2 o t la dy mv) 66 a w 24 := by
  refine OpOk.gen rfl (fun a1 w1 H => ?_)
  have d10 : a1.eval (.tmp 39) = .bool false := H.dep 10 39 rfl (by kernel_rfl)
  have d23 : a1.eval (.tmp 52) = .pointer (some ⟨b1, o1 + k, none⟩) := H.dep 23 52 rfl (by kernel_rfl)
  refine gd_true rfl d10 ?_
  exact OpW.load d23 (ld3 (H.cell m0)) rfl
theorem okTr1_25 {b1 o1 b2 o2 b3 k jn : Nat} {A : Option Addr} {nl c n1 c1 n2 c2 : Nat} {o t la dy : Int} {mv : Bool} {a : Act} {w : World} (t1 : a.eval (.tmp 1) = .slice (some ⟨b1, o1, none⟩) n1 c1) (t2 : a.eval (.tmp 2) = .slice (some ⟨b2, o2, none⟩) n2 c2) (t3 : a.eval (.tmp 3) = .pointer (some ⟨b3, 0, none⟩)) (t7 : a.eval (.tmp 7) = .int .i64 la) (t8 : a.eval (.tmp 8) = .int .i64 k) (q0 : w.cell? ⟨b3, 0, none⟩ = some (.int .i64 o)) (q1 : w.cell? ⟨b3, 1, none⟩ = some (.int .i64 t)) (q2 : w.cell? ⟨b3, 2, none⟩ = some (.slice A nl c)) (hnl : nl ≤ 12) (hk : k < n1) (m0 : w.cell? ⟨b1, o1 + k, none⟩ = some (.int .i64 jn)) (hi' : CV w 31 #[.int .i64 jn, .int .i64 0, .int .i64 (nl - 1)] (.bool true)) (m1 : w.cell? ⟨b2, o2 + jn, none⟩ = some (.int .i64 dy)) (hj : jn < n2) (hkc : k ≤ c1) (hm' : CV w 52 #[.agg #[.int .i64 o, .int .i64 t, .slice A nl c], .slice (some ⟨b1, o1, none⟩) k c1, .int .i64 la, .int .i64 jn, .int .i64 dy] (.bool mv)) : OpOk Try.prog opsTr1 (wordsTr1 b1 o1 b2 o2 b3 k jn A nl c n1 c1 n2 c2 o t la dy mv) 66 a w 25 := by
  refine OpOk.gen rfl (fun a1 w1 H => ?_)
  have d10 : a1.eval (.tmp 39) = .bool false := H.dep 10 39 rfl (by kernel_rfl)
  have d20 : a1.eval (.tmp 49) = .slice (some ⟨b2, o2, none⟩) n2 c2 := H.dep 20 49 rfl (by kernel_rfl)
  have d24 : a1.eval (.tmp 53) = .int .i64 jn := H.dep 24 53 rfl (by kernel_rfl)
  refine gd_true rfl d10 ?_
  exact OpW.index d20 d24 (ix25o hj _) rfl
theorem okTr1_26 {b1 o1 b2 o2 b3 k jn : Nat} {A : Option Addr} {nl c n1 c1 n2 c2 : Nat} {o t la dy : Int} {mv : Bool} {a : Act} {w : World} (t1 : a.eval (.tmp 1) = .slice (some ⟨b1, o1, none⟩) n1 c1) (t2 : a.eval (.tmp 2) = .slice (some ⟨b2, o2, none⟩) n2 c2) (t3 : a.eval (.tmp 3) = .pointer (some ⟨b3, 0, none⟩)) (t7 : a.eval (.tmp 7) = .int .i64 la) (t8 : a.eval (.tmp 8) = .int .i64 k) (q0 : w.cell? ⟨b3, 0, none⟩ = some (.int .i64 o)) (q1 : w.cell? ⟨b3, 1, none⟩ = some (.int .i64 t)) (q2 : w.cell? ⟨b3, 2, none⟩ = some (.slice A nl c)) (hnl : nl ≤ 12) (hk : k < n1) (m0 : w.cell? ⟨b1, o1 + k, none⟩ = some (.int .i64 jn)) (hi' : CV w 31 #[.int .i64 jn, .int .i64 0, .int .i64 (nl - 1)] (.bool true)) (m1 : w.cell? ⟨b2, o2 + jn, none⟩ = some (.int .i64 dy)) (hj : jn < n2) (hkc : k ≤ c1) (hm' : CV w 52 #[.agg #[.int .i64 o, .int .i64 t, .slice A nl c], .slice (some ⟨b1, o1, none⟩) k c1, .int .i64 la, .int .i64 jn, .int .i64 dy] (.bool mv)) : OpOk Try.prog opsTr1 (wordsTr1 b1 o1 b2 o2 b3 k jn A nl c n1 c1 n2 c2 o t la dy mv) 66 a w 26 := by
  refine OpOk.gen rfl (fun a1 w1 H => ?_)
  have d10 : a1.eval (.tmp 39) = .bool false := H.dep 10 39 rfl (by kernel_rfl)
  have d25 : a1.eval (.tmp 54) = .pointer (some ⟨b2, o2 + jn, none⟩) := H.dep 25 54 rfl (by kernel_rfl)
  refine gd_true rfl d10 ?_
  exact OpW.load d25 (ld3 (H.cell m1)) rfl
theorem okTr1_27 {b1 o1 b2 o2 b3 k jn : Nat} {A : Option Addr} {nl c n1 c1 n2 c2 : Nat} {o t la dy : Int} {mv : Bool} {a : Act} {w : World} (t1 : a.eval (.tmp 1) = .slice (some ⟨b1, o1, none⟩) n1 c1) (t2 : a.eval (.tmp 2) = .slice (some ⟨b2, o2, none⟩) n2 c2) (t3 : a.eval (.tmp 3) = .pointer (some ⟨b3, 0, none⟩)) (t7 : a.eval (.tmp 7) = .int .i64 la) (t8 : a.eval (.tmp 8) = .int .i64 k) (q0 : w.cell? ⟨b3, 0, none⟩ = some (.int .i64 o)) (q1 : w.cell? ⟨b3, 1, none⟩ = some (.int .i64 t)) (q2 : w.cell? ⟨b3, 2, none⟩ = some (.slice A nl c)) (hnl : nl ≤ 12) (hk : k < n1) (m0 : w.cell? ⟨b1, o1 + k, none⟩ = some (.int .i64 jn)) (hi' : CV w 31 #[.int .i64 jn, .int .i64 0, .int .i64 (nl - 1)] (.bool true)) (m1 : w.cell? ⟨b2, o2 + jn, none⟩ = some (.int .i64 dy)) (hj : jn < n2) (hkc : k ≤ c1) (hm' : CV w 52 #[.agg #[.int .i64 o, .int .i64 t, .slice A nl c], .slice (some ⟨b1, o1, none⟩) k c1, .int .i64 la, .int .i64 jn, .int .i64 dy] (.bool mv)) : OpOk Try.prog opsTr1 (wordsTr1 b1 o1 b2 o2 b3 k jn A nl c n1 c1 n2 c2 o t la dy mv) 66 a w 27 := by
  refine OpOk.gen rfl (fun a1 w1 H => ?_)
  have d10 : a1.eval (.tmp 39) = .bool false := H.dep 10 39 rfl (by kernel_rfl)
  have d11 : a1.eval (.tmp 40) = .agg #[.int .i64 o, .int .i64 t, .slice A nl c] := H.dep 11 40 rfl (by kernel_rfl)
  have d14 : a1.eval (.tmp 43) = .slice (some ⟨b1, o1, none⟩) k c1 := H.dep 14 43 rfl (by kernel_rfl)
  have d15 : a1.eval (.tmp 44) = .int .i64 la := H.dep 15 44 rfl (by kernel_rfl)
  have d19 : a1.eval (.tmp 48) = .int .i64 jn := H.dep 19 48 rfl (by kernel_rfl)
  have d26 : a1.eval (.tmp 55) = .int .i64 dy := H.dep 26 55 rfl (by kernel_rfl)
  refine gd_true rfl d10 ?_
  exact OpW.call (vs := #[.agg #[.int .i64 o, .int .i64 t, .slice A nl c], .slice (some ⟨b1, o1, none⟩) k c1, .int .i64 la, .int .i64 jn, .int .i64 dy]) (enters_of Try.func52 (by kernel_rfl) rfl) (by simp [d11, d14, d15, d19, d26]) (hm' w1 H.low)
theorem okTr1_28 {b1 o1 b2 o2 b3 k jn : Nat} {A : Option Addr} {nl c n1 c1 n2 c2 : Nat} {o t la dy : Int} {mv : Bool} {a : Act} {w : World} (t1 : a.eval (.tmp 1) = .slice (some ⟨b1, o1, none⟩) n1 c1) (t2 : a.eval (.tmp 2) = .slice (some ⟨b2, o2, none⟩) n2 c2) (t3 : a.eval (.tmp 3) = .pointer (some ⟨b3, 0, none⟩)) (t7 : a.eval (.tmp 7) = .int .i64 la) (t8 : a.eval (.tmp 8) = .int .i64 k) (q0 : w.cell? ⟨b3, 0, none⟩ = some (.int .i64 o)) (q1 : w.cell? ⟨b3, 1, none⟩ = some (.int .i64 t)) (q2 : w.cell? ⟨b3, 2, none⟩ = some (.slice A nl c)) (hnl : nl ≤ 12) (hk : k < n1) (m0 : w.cell? ⟨b1, o1 + k, none⟩ = some (.int .i64 jn)) (hi' : CV w 31 #[.int .i64 jn, .int .i64 0, .int .i64 (nl - 1)] (.bool true)) (m1 : w.cell? ⟨b2, o2 + jn, none⟩ = some (.int .i64 dy)) (hj : jn < n2) (hkc : k ≤ c1) (hm' : CV w 52 #[.agg #[.int .i64 o, .int .i64 t, .slice A nl c], .slice (some ⟨b1, o1, none⟩) k c1, .int .i64 la, .int .i64 jn, .int .i64 dy] (.bool mv)) : OpOk Try.prog opsTr1 (wordsTr1 b1 o1 b2 o2 b3 k jn A nl c n1 c1 n2 c2 o t la dy mv) 66 a w 28 := by
  refine OpOk.gen rfl (fun a1 w1 H => ?_)
  have d10 : a1.eval (.tmp 39) = .bool false := H.dep 10 39 rfl (by kernel_rfl)
  have d27 : a1.eval (.tmp 56) = .bool mv := H.dep 27 56 rfl (by kernel_rfl)
  refine gd_true rfl d10 ?_
  exact OpW.un d27 (not4 _ _) rfl
theorem okTr1_29 {b1 o1 b2 o2 b3 k jn : Nat} {A : Option Addr} {nl c n1 c1 n2 c2 : Nat} {o t la dy : Int} {mv : Bool} {a : Act} {w : World} (t1 : a.eval (.tmp 1) = .slice (some ⟨b1, o1, none⟩) n1 c1) (t2 : a.eval (.tmp 2) = .slice (some ⟨b2, o2, none⟩) n2 c2) (t3 : a.eval (.tmp 3) = .pointer (some ⟨b3, 0, none⟩)) (t7 : a.eval (.tmp 7) = .int .i64 la) (t8 : a.eval (.tmp 8) = .int .i64 k) (q0 : w.cell? ⟨b3, 0, none⟩ = some (.int .i64 o)) (q1 : w.cell? ⟨b3, 1, none⟩ = some (.int .i64 t)) (q2 : w.cell? ⟨b3, 2, none⟩ = some (.slice A nl c)) (hnl : nl ≤ 12) (hk : k < n1) (m0 : w.cell? ⟨b1, o1 + k, none⟩ = some (.int .i64 jn)) (hi' : CV w 31 #[.int .i64 jn, .int .i64 0, .int .i64 (nl - 1)] (.bool true)) (m1 : w.cell? ⟨b2, o2 + jn, none⟩ = some (.int .i64 dy)) (hj : jn < n2) (hkc : k ≤ c1) (hm' : CV w 52 #[.agg #[.int .i64 o, .int .i64 t, .slice A nl c], .slice (some ⟨b1, o1, none⟩) k c1, .int .i64 la, .int .i64 jn, .int .i64 dy] (.bool mv)) : OpOk Try.prog opsTr1 (wordsTr1 b1 o1 b2 o2 b3 k jn A nl c n1 c1 n2 c2 o t la dy mv) 66 a w 29 := by
  refine OpOk.gen rfl (fun a1 w1 H => ?_)
  have d10 : a1.eval (.tmp 39) = .bool false := H.dep 10 39 rfl (by kernel_rfl)
  have d28 : a1.eval (.tmp 57) = .bool (!mv) := H.dep 28 57 rfl (by kernel_rfl)
  refine gd_none ?_
  exact OpW.pick (b := false) d10 d28
theorem regionTr1 {F : Fence} {n : Nat} (hF : WideF F Try.prog) {Q : Exit → Act → World → Prop} {b1 o1 b2 o2 b3 k jn : Nat} {A : Option Addr} {nl c n1 c1 n2 c2 : Nat} {o t la dy : Int} {mv : Bool} {a : Act} {w : World} (hsz : a.tmps.size = 66)
    (t1 : a.eval (.tmp 1) = .slice (some ⟨b1, o1, none⟩) n1 c1) (t2 : a.eval (.tmp 2) = .slice (some ⟨b2, o2, none⟩) n2 c2) (t3 : a.eval (.tmp 3) = .pointer (some ⟨b3, 0, none⟩)) (t7 : a.eval (.tmp 7) = .int .i64 la) (t8 : a.eval (.tmp 8) = .int .i64 k) (q0 : w.cell? ⟨b3, 0, none⟩ = some (.int .i64 o)) (q1 : w.cell? ⟨b3, 1, none⟩ = some (.int .i64 t)) (q2 : w.cell? ⟨b3, 2, none⟩ = some (.slice A nl c)) (hnl : nl ≤ 12) (hk : k < n1) (m0 : w.cell? ⟨b1, o1 + k, none⟩ = some (.int .i64 jn)) (hi' : CV w 31 #[.int .i64 jn, .int .i64 0, .int .i64 (nl - 1)] (.bool true)) (m1 : w.cell? ⟨b2, o2 + jn, none⟩ = some (.int .i64 dy)) (hj : jn < n2) (hkc : k ≤ c1) (hm' : CV w 52 #[.agg #[.int .i64 o, .int .i64 t, .slice A nl c], .slice (some ⟨b1, o1, none⟩) k c1, .int .i64 la, .int .i64 jn, .int .i64 dy] (.bool mv))
    (hK : ∀ (a' : Act) (w' : World), a'.tmps.size = 66 → a'.defers = a.defers → Below w.heap.size w w' → (∀ e, ndstB opsTr1 e = true → a'.eval (.tmp e) = a.eval (.tmp e)) → (∀ (j d : Nat), (opsTr1[j]?).bind (·.dst) = some d → (wordsTr1 b1 o1 b2 o2 b3 k jn A nl c n1 c1 n2 c2 o t la dy mv).at_ j (a'.eval (.tmp d)) w') → Q .normal a' w') :
    (Code.region 7 opsTr1 true).wpIn F n Try.prog Q a w := by
  refine region_S (wordsTr1 b1 o1 b2 o2 b3 k jn A nl c n1 c1 n2 c2 o t la dy mv) 66 hF (by kernel_rfl) Try.mixed (by kernel_rfl) (by kernel_rfl) ?_ hsz 30 (by kernel_rfl) ?_ hK
  · exact ⟨(fun _ _ _ h _ => h), (fun _ _ _ h _ => h), (fun _ _ _ h _ => h), (fun _ _ _ h _ => h), (fun _ _ _ h _ => h), (fun _ _ _ h _ => h), (fun _ _ _ h _ => h), (fun _ _ _ h _ => h), (fun _ _ _ h _ => h), (fun _ _ _ h _ => h), (fun _ _ _ h _ => h), (fun _ _ _ h _ => h), (fun _ _ _ h _ => h), (fun _ _ _ h _ => h), (fun _ _ _ h _ => h), (fun _ _ _ h _ => h), (fun _ _ _ h _ => h), (fun _ _ _ h _ => h), (fun _ _ _ h _ => h), (fun _ _ _ h _ => h), (fun _ _ _ h _ => h), (fun _ _ _ h _ => h), (fun _ _ _ h _ => h), (fun _ _ _ h _ => h), (fun _ _ _ h _ => h), (fun _ _ _ h _ => h), (fun _ _ _ h _ => h), (fun _ _ _ h _ => h), (fun _ _ _ h _ => h), (fun _ _ _ h _ => h), trivial⟩
  · exact ⟨⟨⟨⟨⟨⟨⟨⟨⟨⟨⟨⟨⟨⟨⟨⟨⟨⟨⟨⟨⟨⟨⟨⟨⟨⟨⟨⟨⟨⟨trivial, okTr1_0 t1 t2 t3 t7 t8 q0 q1 q2 hnl hk m0 hi'.drew m1 hj hkc hm'.drew⟩, okTr1_1 t1 t2 t3 t7 t8 q0 q1 q2 hnl hk m0 hi'.drew m1 hj hkc hm'.drew⟩, okTr1_2 t1 t2 t3 t7 t8 q0 q1 q2 hnl hk m0 hi'.drew m1 hj hkc hm'.drew⟩, okTr1_3 t1 t2 t3 t7 t8 q0 q1 q2 hnl hk m0 hi'.drew m1 hj hkc hm'.drew⟩, okTr1_4 t1 t2 t3 t7 t8 q0 q1 q2 hnl hk m0 hi'.drew m1 hj hkc hm'.drew⟩, okTr1_5 t1 t2 t3 t7 t8 q0 q1 q2 hnl hk m0 hi'.drew m1 hj hkc hm'.drew⟩, okTr1_6 t1 t2 t3 t7 t8 q0 q1 q2 hnl hk m0 hi'.drew m1 hj hkc hm'.drew⟩, okTr1_7 t1 t2 t3 t7 t8 q0 q1 q2 hnl hk m0 hi'.drew m1 hj hkc hm'.drew⟩, okTr1_8 t1 t2 t3 t7 t8 q0 q1 q2 hnl hk m0 hi'.drew m1 hj hkc hm'.drew⟩, okTr1_9 t1 t2 t3 t7 t8 q0 q1 q2 hnl hk m0 hi'.drew m1 hj hkc hm'.drew⟩, okTr1_10 t1 t2 t3 t7 t8 q0 q1 q2 hnl hk m0 hi'.drew m1 hj hkc hm'.drew⟩, okTr1_11 t1 t2 t3 t7 t8 q0 q1 q2 hnl hk m0 hi'.drew m1 hj hkc hm'.drew⟩, okTr1_12 t1 t2 t3 t7 t8 q0 q1 q2 hnl hk m0 hi'.drew m1 hj hkc hm'.drew⟩, okTr1_13 t1 t2 t3 t7 t8 q0 q1 q2 hnl hk m0 hi'.drew m1 hj hkc hm'.drew⟩, okTr1_14 t1 t2 t3 t7 t8 q0 q1 q2 hnl hk m0 hi'.drew m1 hj hkc hm'.drew⟩, okTr1_15 t1 t2 t3 t7 t8 q0 q1 q2 hnl hk m0 hi'.drew m1 hj hkc hm'.drew⟩, okTr1_16 t1 t2 t3 t7 t8 q0 q1 q2 hnl hk m0 hi'.drew m1 hj hkc hm'.drew⟩, okTr1_17 t1 t2 t3 t7 t8 q0 q1 q2 hnl hk m0 hi'.drew m1 hj hkc hm'.drew⟩, okTr1_18 t1 t2 t3 t7 t8 q0 q1 q2 hnl hk m0 hi'.drew m1 hj hkc hm'.drew⟩, okTr1_19 t1 t2 t3 t7 t8 q0 q1 q2 hnl hk m0 hi'.drew m1 hj hkc hm'.drew⟩, okTr1_20 t1 t2 t3 t7 t8 q0 q1 q2 hnl hk m0 hi'.drew m1 hj hkc hm'.drew⟩, okTr1_21 t1 t2 t3 t7 t8 q0 q1 q2 hnl hk m0 hi'.drew m1 hj hkc hm'.drew⟩, okTr1_22 t1 t2 t3 t7 t8 q0 q1 q2 hnl hk m0 hi'.drew m1 hj hkc hm'.drew⟩, okTr1_23 t1 t2 t3 t7 t8 q0 q1 q2 hnl hk m0 hi'.drew m1 hj hkc hm'.drew⟩, okTr1_24 t1 t2 t3 t7 t8 q0 q1 q2 hnl hk m0 hi'.drew m1 hj hkc hm'.drew⟩, okTr1_25 t1 t2 t3 t7 t8 q0 q1 q2 hnl hk m0 hi'.drew m1 hj hkc hm'.drew⟩, okTr1_26 t1 t2 t3 t7 t8 q0 q1 q2 hnl hk m0 hi'.drew m1 hj hkc hm'.drew⟩, okTr1_27 t1 t2 t3 t7 t8 q0 q1 q2 hnl hk m0 hi'.drew m1 hj hkc hm'.drew⟩, okTr1_28 t1 t2 t3 t7 t8 q0 q1 q2 hnl hk m0 hi'.drew m1 hj hkc hm'.drew⟩, okTr1_29 t1 t2 t3 t7 t8 q0 q1 q2 hnl hk m0 hi'.drew m1 hj hkc hm'.drew⟩
noncomputable def roundTr : Code := .seq (.seq (.region 5 opsTr_5 false) (.cond (.tmp 26) .skip (.exit 0))) (.seq (.block 1 (.seq (.seq (.region 7 opsTr0 true) (.cond (.tmp 58) (.seq (.region 8 opsTr_8 false) .ret) .skip)) (.region 9 opsTr_9 false))) (.region 6 opsTr_6 false))
noncomputable def code22 : Code := .seq (.region 0 opsTr_0 false) (.seq (.seq (.region 1 opsTr_1 false) (.cond (.tmp 22) (.seq (.region 2 opsTr_2 false) .ret) .skip)) (.seq (.region 3 opsTr_3 false) (.seq (.seq (.region 4 opsTr_4 false) (.block 0 (.loop roundTr))) (.seq (.region 10 opsTr_10 false) .ret))))
theorem body22 : Try.f22.body = some code22 := by kernel_rfl
end Go.Proofs.Ytfcnombmphophaa
namespace Go.Proofs.Ytfcnombmphophaa
open Go.RowKit Go.Shelf
theorem cv_may {w : World} {o t la dy : Int} {A A1 : Option Addr} {l : List Sale} {done : List Int} {c c1 k m : Nat} {b : Bool} (hl : l.length ≤ 12) (hmd : m = done.length) (hd : done.length ≤ 12) (ht0 : 0 ≤ t) (ht : t ≤ 1000) (hm : ∀ s, s ∈ l → 0 ≤ s.many ∧ s.many ≤ 1000)
    (hdn : ∀ d, d ∈ done → 0 ≤ d ∧ d < l.length) (hk : k < l.length) (hs : SalesAt w w.heap.size A l) (h1 : IntsAt w w.heap.size A1 done) (hb : mayR t l done la k dy = b) :
    CV w 52 #[.agg #[.int .i64 o, .int .i64 t, .slice A l.length c], .slice A1 m c1, .int .i64 la, .int .i64 k, .int .i64 dy] (.bool b) := by
  subst hmd
  intro W1 hw
  refine (may_any o t A A1 l done c c1 k la dy W1 hl hd ht0 ht hm hdn hk ((hs.below hw (Nat.le_refl _)).more hw.size) ((h1.below hw (Nat.le_refl _)).more hw.size)).mono ?_
  rintro e w' ⟨rfl, hb'⟩
  exact ⟨_, rfl, by rw [hb], hb'⟩
set_option maxHeartbeats 2000000 in
theorem truth_any (o t : Int) (A A1 A2 : Option Addr) (l : List Sale) (ord dys : List Int) (c c1 c2 : Nat) (W : World) (hl : l.length ≤ 12) (hc1 : ord.length ≤ c1) (ho : ord.length ≤ 12) (hdl : dys.length ≤ 12) (ht0 : 0 ≤ t) (ht : t ≤ 1000) (hm : ∀ s, s ∈ l → 0 ≤ s.many ∧ s.many ≤ 1000)
    (hs : SalesAt W W.heap.size A l) (h1 : IntsAt W W.heap.size A1 ord) (h2 : IntsAt W W.heap.size A2 dys) :
    Calls Try.prog 22 #[.agg #[.int .i64 o, .int .i64 t, .slice A l.length c], .slice A1 ord.length c1, .slice A2 dys.length c2] W (TP W (truthB t l ord dys)) := by
  refine (callsIn_wide (n := 5)).1 (callsIn_of_wp Try.func22 body22 trivial ?_ rfl)
  obtain ⟨a, ha⟩ : ∃ a : Act, a = { tmps := #[.agg #[.int .i64 o, .int .i64 t, .slice A l.length c], .slice A1 ord.length c1, .slice A2 dys.length c2] ++ Array.replicate (Try.f22.ntmps - (#[.agg #[.int .i64 o, .int .i64 t, .slice A l.length c], .slice A1 ord.length c1, .slice A2 dys.length c2] : Array Value).size) undef, defers := [] } := ⟨_, rfl⟩
  have hsz : a.tmps.size = 66 := by rw [ha]; simp [Try.ntmps22]
  have t0 : a.eval (.tmp 0) = .agg #[.int .i64 o, .int .i64 t, .slice A l.length c] := by rw [ha]; simp [Act.eval]
  have t1 : a.eval (.tmp 1) = .slice A1 ord.length c1 := by rw [ha]; simp [Act.eval]
  have t2 : a.eval (.tmp 2) = .slice A2 dys.length c2 := by rw [ha]; simp [Act.eval]
  have hdf : a.defers = [] := by rw [ha]
  rw [← ha]
  clear ha
  have hret : ∀ (a' : Act) (W' : World) (v : Bool), a'.defers = [] → a'.eval (.tmp 6) = .bool v → Below W.heap.size W W' → v = truthB t l ord dys → bodyPost Try.prog Try.f22 (TP W (truthB t l ord dys)) .ret a' W' := fun a' W' v hd h4 hb he =>
    bodyPost_ret (v := .bool v) (res1 Try.results22 h4) hd ⟨by rw [he], hb⟩
  unfold code22
  refine wpIn_seq (region_p 2 ?_)
  intro K hK
  refine ListK.box (i := 0) (u := .agg #[.int .i64 o, .int .i64 t, .slice A l.length c]) rfl (by simp [t0]) (bx24 W _ _ _ _ _) ?_
  refine ListK.assign (i := 1) (v := .bool false) rfl (by simp) ?_
  refine ListK.done (hK _ _ ?_)
  clear hK K
  have wb := Whole.new W 24 #[.int .i64 o, .int .i64 t, .slice A l.length c]
  have hB1 : Below W.heap.size W (W.alloc (.cells #[.int .i64 o, .int .i64 t, .slice A l.length c] 24)) := (Below.refl _ W).alloc (Nat.le_refl _) _
  have hS1 := hB1.size
  have hlt : W.heap.size < (W.alloc (.cells #[.int .i64 o, .int .i64 t, .slice A l.length c] 24)).heap.size := by simp
  generalize hb3 : W.heap.size = b3 at *
  generalize W.alloc (.cells #[.int .i64 o, .int .i64 t, .slice A l.length c] 24) = W1 at *
  have hs1 : SalesAt W1 W1.heap.size A l := (hs.below hB1 (Nat.le_refl _)).more hS1
  have h11 : IntsAt W1 W1.heap.size A1 ord := (h1.below hB1 (Nat.le_refl _)).more hS1
  have h21 : IntsAt W1 W1.heap.size A2 dys := (h2.below hB1 (Nat.le_refl _)).more hS1
  have q2' := wb.cell 2
  generalize hA : Act.put _ _ _ = a1
  have hz_a1 : a1.tmps.size = 66 := by rw [← hA]; simp only [size_put, hsz]
  have u1 : a1.eval (.tmp 1) = .slice A1 ord.length c1 := by rw [← hA]; exact (by simp [t1])
  have u2 : a1.eval (.tmp 2) = .slice A2 dys.length c2 := by rw [← hA]; exact (by simp [t2])
  have u3 : a1.eval (.tmp 3) = .pointer (some ⟨b3, 0, none⟩) := by rw [← hA]; exact (by simp [hsz])
  have hd_a1 : a1.defers = [] := by rw [← hA]; simp only [defers_put, hdf]
  clear hA
  by_cases hlen : ord.length = l.length
  · by_cases hlen2 : dys.length = l.length
    · skip
      refine wpIn_seq (wpIn_seq (region_p 14 ?_))
      intro K hK
      refine ListK.move (i := 0) (v := .slice A1 ord.length c1) rfl (by simp [u1]) ?_
      refine ListK.len (i := 1) (u := .slice A1 ord.length c1) (v := .int .i64 ord.length) rfl (by simp [hz_a1]) (ln25 _ _ _ _ _) rfl ?_
      refine ListK.field (i := 2) (u := .pointer (some ⟨b3, 0, none⟩)) (v := .pointer (some ⟨b3, 2, none⟩)) rfl (by simp [u3]) (fa24_2 _) ?_
      refine ListK.load (i := 3) (p := ⟨b3, 2, none⟩) (v := .slice A l.length c) rfl (by simp [hz_a1]) (ld22 (q2')) ?_
      refine ListK.len (i := 4) (u := .slice A l.length c) (v := .int .i64 l.length) rfl (by simp [hz_a1]) (ln22 _ _ _ _ _) rfl ?_
      refine ListK.bin (i := 5) (u := .int .i64 ord.length) (u' := .int .i64 l.length) (v := .bool false) rfl (by simp [hz_a1]) (by simp [hz_a1]) (neqF (by omega) _) ?_
      refine ListK.move (i := 6) (v := .bool false) rfl (by simp [hz_a1]) ?_
      refine ListK.move (i := 7) (v := .slice A2 dys.length c2) rfl (by simp [u2]) ?_ (hw := wanted_g (e := 15) (b' := false) rfl (by simp [hz_a1]) rfl)
      refine ListK.lenW (i := 8) (u := .slice A2 dys.length c2) (v := .int .i64 dys.length) rfl (by simp [hz_a1]) (ln25 _ _ _ _ _) rfl ?_ (hw := wanted_g (e := 15) (b' := false) rfl (by simp [hz_a1]) rfl)
      refine ListK.field (i := 9) (u := .pointer (some ⟨b3, 0, none⟩)) (v := .pointer (some ⟨b3, 2, none⟩)) rfl (by simp [u3]) (fa24_2 _) ?_ (hw := wanted_g (e := 15) (b' := false) rfl (by simp [hz_a1]) rfl)
      refine ListK.load (i := 10) (p := ⟨b3, 2, none⟩) (v := .slice A l.length c) rfl (by simp [hz_a1]) (ld22 (q2')) ?_ (hw := wanted_g (e := 15) (b' := false) rfl (by simp [hz_a1]) rfl)
      refine ListK.lenW (i := 11) (u := .slice A l.length c) (v := .int .i64 l.length) rfl (by simp [hz_a1]) (ln22 _ _ _ _ _) rfl ?_ (hw := wanted_g (e := 15) (b' := false) rfl (by simp [hz_a1]) rfl)
      refine ListK.bin (i := 12) (u := .int .i64 dys.length) (u' := .int .i64 l.length) (v := .bool false) rfl (by simp [hz_a1]) (by simp [hz_a1]) (neqF (by omega) _) ?_ (hw := wanted_g (e := 15) (b' := false) rfl (by simp [hz_a1]) rfl)
      refine ListK.pick (i := 13) (b := false) (v := .bool false) rfl (by simp [hz_a1]) (by simp [hz_a1]) ?_
      refine ListK.done (hK _ _ ?_)
      clear hK K
      refine wpIn_cond (t := false) (by simp [hz_a1]) (wpIn_skip ?_)
      show (Code.seq _ _).wpIn _ _ _ _ _ _
      generalize hA : Act.put _ _ _ = a2
      have hz_a2 : a2.tmps.size = 66 := by rw [← hA]; simp only [size_put, hz_a1]
      have v1 : a2.eval (.tmp 1) = .slice A1 ord.length c1 := by rw [← hA]; exact (by simp [u1])
      have v2 : a2.eval (.tmp 2) = .slice A2 dys.length c2 := by rw [← hA]; exact (by simp [u2])
      have v3 : a2.eval (.tmp 3) = .pointer (some ⟨b3, 0, none⟩) := by rw [← hA]; exact (by simp [u3])
      have hd_a2 : a2.defers = [] := by rw [← hA]; simp only [defers_put, hd_a1]
      clear hA
      refine wpIn_seq (region_p 1 ?_)
      intro K hK
      refine ListK.assign (i := 0) (v := .int .i64 0) rfl (by simp) ?_
      refine ListK.done (hK _ _ ?_)
      clear hK K
      generalize hA : Act.put _ _ _ = a3
      have hz_a3 : a3.tmps.size = 66 := by rw [← hA]; simp only [size_put, hz_a2]
      have x1 : a3.eval (.tmp 1) = .slice A1 ord.length c1 := by rw [← hA]; exact (by simp [v1])
      have x2 : a3.eval (.tmp 2) = .slice A2 dys.length c2 := by rw [← hA]; exact (by simp [v2])
      have x3 : a3.eval (.tmp 3) = .pointer (some ⟨b3, 0, none⟩) := by rw [← hA]; exact (by simp [v3])
      have x7 : a3.eval (.tmp 7) = .int .i64 0 := by rw [← hA]; exact (by simp [hz_a2])
      have hd_a3 : a3.defers = [] := by rw [← hA]; simp only [defers_put, hd_a2]
      clear hA
      refine wpIn_seq (wpIn_seq (region_p 1 ?_))
      intro K hK
      refine ListK.assign (i := 0) (v := .int .i64 0) rfl (by simp) ?_
      refine ListK.done (hK _ _ ?_)
      clear hK K
      refine wpIn_block (wpIn_loop (fun a W' => ∃ (k : Nat) (la : Int), k ≤ ord.length ∧ a.tmps.size = 66 ∧ a.defers = [] ∧ a.eval (.tmp 1) = .slice A1 ord.length c1 ∧ a.eval (.tmp 2) = .slice A2 dys.length c2 ∧ a.eval (.tmp 3) = .pointer (some ⟨b3, 0, none⟩) ∧ a.eval (.tmp 7) = .int .i64 la ∧ a.eval (.tmp 8) = .int .i64 k ∧ Below W1.heap.size W1 W' ∧ isGo t l dys [] ord 0 = isGo t l dys (ord.take k) (ord.drop k) la ∧ (∀ d, d ∈ ord.take k → 0 ≤ d ∧ d < l.length)) (fun a _ => ord.length - (intOf (a.eval (.tmp 8))).toNat)
        ⟨0, 0, Nat.zero_le _, by simp only [size_put, hz_a3], by simp only [defers_put, hd_a3], (by simp [x1]), (by simp [x2]), (by simp [x3]), (by simp [x7]), (by simp [hz_a3]), Below.refl _ _, rfl, fun d hd => by simp at hd⟩ ?_)
      clear hsz t0 t1 t2 hdf hz_a1 u1 u2 u3 hd_a1 hz_a2 v1 v2 v3 hd_a2 hz_a3 x1 x2 x3 x7 hd_a3 a a1 a2 a3
      rintro a W2 ⟨k, la, hk, hsz, hdf, t1, t2, t3, t7, t8, hb, hgo, hdn⟩
      refine wpIn_seq (wpIn_seq (region_p 4 ?_))
      intro K hK
      refine ListK.move (i := 0) (v := .int .i64 k) rfl (by simp [t8]) ?_
      refine ListK.move (i := 1) (v := .slice A1 ord.length c1) rfl (by simp [t1]) ?_
      refine ListK.len (i := 2) (u := .slice A1 ord.length c1) (v := .int .i64 ord.length) rfl (by simp [hsz]) (ln25 _ _ _ _ _) rfl ?_
      refine ListK.bin (i := 3) (u := .int .i64 k) (u' := .int .i64 (ord.length : Int)) (v := .bool (decide (k < (ord.length : Int)))) rfl (by simp [hsz]) (by simp [hsz]) (lss3 _) ?_
      refine ListK.done (hK _ _ ?_)
      clear hK K
      have hB2 := hB1.trans (hb.mono hS1)
      by_cases hkl : k < ord.length
      · refine wpIn_cond (t := true) (by simp [hsz]; omega) (wpIn_skip ?_)
        generalize hA : Act.put _ _ _ = a1
        have hz_a1 : a1.tmps.size = 66 := by rw [← hA]; simp only [size_put, hsz]
        have u1 : a1.eval (.tmp 1) = .slice A1 ord.length c1 := by rw [← hA]; exact (by simp [t1])
        have u2 : a1.eval (.tmp 2) = .slice A2 dys.length c2 := by rw [← hA]; exact (by simp [t2])
        have u3 : a1.eval (.tmp 3) = .pointer (some ⟨b3, 0, none⟩) := by rw [← hA]; exact (by simp [t3])
        have u7 : a1.eval (.tmp 7) = .int .i64 la := by rw [← hA]; exact (by simp [t7])
        have u8 : a1.eval (.tmp 8) = .int .i64 k := by rw [← hA]; exact (by simp [t8])
        have hd_a1 : a1.defers = [] := by rw [← hA]; simp only [defers_put, hdf]
        clear hA
        have hs2 : SalesAt W2 W2.heap.size A l := (hs1.below hb (Nat.le_refl _)).more hb.size
        have h12 : IntsAt W2 W2.heap.size A1 ord := (h11.below hb (Nat.le_refl _)).more hb.size
        have h22 : IntsAt W2 W2.heap.size A2 dys := (h21.below hb (Nat.le_refl _)).more hb.size
        have wb2 := wb.below hb (by omega)
        have q0 : W2.cell? ⟨b3, 0, none⟩ = some (.int .i64 o) := wb2.cell 0
        have q1 : W2.cell? ⟨b3, 1, none⟩ = some (.int .i64 t) := wb2.cell 1
        have q2 : W2.cell? ⟨b3, 2, none⟩ = some (.slice A l.length c) := wb2.cell 2
        obtain ⟨b1, o1, hA1, hbb1, m0⟩ := h12 k ord[k] (List.getElem?_eq_getElem hkl)
        subst hA1
        have hstep := isGo_step (t := t) (l := l) (dys := dys) (la := la) hkl
        rw [← hgo] at hstep
        have htk := List.take_succ_eq_append_getElem hkl
        generalize ord[k] = n0 at *
        show (Code.seq _ _).wpIn _ _ _ _ _ _
        cases hI : inR n0 0 ((l.length : Int) - 1) with
        | false =>
          refine wpIn_seq (wpIn_block (wpIn_seq (wpIn_seq (regionTr0 (wideF_plain _) hz_a1 u1 u2 u3 u7 u8 q0 q1 q2 hl hkl m0 (cv_in hI) ?_))))
          intro a2 W3 hz2 hd2 hb3' hr hw
          have v58 : a2.eval (.tmp 58) = .bool true := hw 29 58 (by kernel_rfl)
          refine wpIn_cond (t := true) v58 ?_
          refine wpIn_seq (region_p 1 ?_)
          intro K hK
          refine ListK.assign (i := 0) (v := .bool false) rfl (by simp) ?_
          refine ListK.done (hK _ _ (wpIn_ret ?_))
          show bodyPost Try.prog Try.f22 (TP W (truthB t l ord dys)) Exit.ret _ _
          refine hret _ _ false (by simp only [defers_put, hd2, hd_a1]) (by simp [hz2]) (hB2.trans (hb3'.mono (by have := hB2.size; omega))) ?_
          rw [truthB, hstep, hI]
          simp
        | true =>
          have hin := inR_iff.1 hI
          obtain ⟨jn, rfl⟩ : ∃ j : Nat, n0 = j := ⟨n0.toNat, by omega⟩
          have hjl : jn < l.length := by omega
          have hjd : jn < dys.length := by omega
          obtain ⟨b2, o2, hA2, hbb2, m1⟩ := h22 jn dys[jn] (List.getElem?_eq_getElem hjd)
          subst hA2
          have hdy : (dys[((jn : Int)).toNat]?).getD 0 = dys[jn] := by
            rw [Int.toNat_natCast, List.getElem?_eq_getElem hjd]
            rfl
          rw [hdy, hI, Bool.true_and] at hstep
          generalize dys[jn] = dy at *
          have htl : (ord.take k).length = k := by rw [List.length_take]; omega
          refine wpIn_seq (wpIn_block (wpIn_seq (wpIn_seq (regionTr1 (wideF_plain _) hz_a1 u1 u2 u3 u7 u8 q0 q1 q2 hl hkl m0 (cv_in hI) m1 hjd (by omega) (cv_may (m := k) hl htl.symm (by omega) ht0 ht hm hdn hjl hs2 (h12.take k) rfl) ?_))))
          intro a2 W3 hz2 hd2 hb3' hr hw
          generalize hmv : mayR t l (ord.take k) la (jn : Int) dy = mv at *
          have v58 : a2.eval (.tmp 58) = .bool (!mv) := hw 29 58 (by kernel_rfl)
          have hB3 := hB2.trans (hb3'.mono (by have := hB2.size; omega))
          cases mv with
          | false =>
            refine wpIn_cond (t := true) v58 ?_
            refine wpIn_seq (region_p 1 ?_)
            intro K hK
            refine ListK.assign (i := 0) (v := .bool false) rfl (by simp) ?_
            refine ListK.done (hK _ _ (wpIn_ret ?_))
            show bodyPost Try.prog Try.f22 (TP W (truthB t l ord dys)) Exit.ret _ _
            refine hret _ _ false (by simp only [defers_put, hd2, hd_a1]) (by simp [hz2]) hB3 ?_
            rw [truthB, hstep]
            simp
          | true =>
            refine wpIn_cond (t := false) v58 (wpIn_skip ?_)
            have w1 := (hr 1 (by kernel_rfl)).trans u1
            have w2 := (hr 2 (by kernel_rfl)).trans u2
            have w3 := (hr 3 (by kernel_rfl)).trans u3
            have w8 := (hr 8 (by kernel_rfl)).trans u8
            have m0' := (hb3'.cell (p := ⟨b1, o1 + k, none⟩) hbb1).trans m0
            have m1' := (hb3'.cell (p := ⟨b2, o2 + jn, none⟩) hbb2).trans m1
            show (Code.region 9 opsTr_9 false).wpIn _ _ _ _ _ _
            refine region_p 8 ?_
            intro K9 hK9
            refine ListK.move (i := 0) (v := .slice (some ⟨b2, o2, none⟩) dys.length c2) rfl (by simp [w2]) ?_
            refine ListK.move (i := 1) (v := .slice (some ⟨b1, o1, none⟩) ord.length c1) rfl (by simp [w1]) ?_
            refine ListK.move (i := 2) (v := .int .i64 k) rfl (by simp [w8]) ?_
            refine ListK.index (i := 3) (u := .slice (some ⟨b1, o1, none⟩) ord.length c1) (u' := .int .i64 k) (v := .pointer (some ⟨b1, o1 + k, none⟩)) rfl (by simp [hz2]) (by simp [hz2]) (ix25o hkl _) ?_
            refine ListK.load (i := 4) (p := ⟨b1, o1 + k, none⟩) (v := .int .i64 jn) rfl (by simp [hz2]) (ld3 (m0')) ?_
            refine ListK.index (i := 5) (u := .slice (some ⟨b2, o2, none⟩) dys.length c2) (u' := .int .i64 jn) (v := .pointer (some ⟨b2, o2 + jn, none⟩)) rfl (by simp [hz2]) (by simp [hz2]) (ix25o hjd _) ?_
            refine ListK.load (i := 6) (p := ⟨b2, o2 + jn, none⟩) (v := .int .i64 dy) rfl (by simp [hz2]) (ld3 (m1')) ?_
            refine ListK.assign (i := 7) (v := .int .i64 dy) rfl (by simp [hz2]) ?_
            refine ListK.done (hK9 _ _ ?_)
            generalize hA : Act.put _ _ _ = a4
            have hz_a4 : a4.tmps.size = 66 := by rw [← hA]; simp only [size_put, hz2]
            have y1 : a4.eval (.tmp 1) = .slice (some ⟨b1, o1, none⟩) ord.length c1 := by rw [← hA]; exact (by simp [w1])
            have y2 : a4.eval (.tmp 2) = .slice (some ⟨b2, o2, none⟩) dys.length c2 := by rw [← hA]; exact (by simp [w2])
            have y3 : a4.eval (.tmp 3) = .pointer (some ⟨b3, 0, none⟩) := by rw [← hA]; exact (by simp [w3])
            have y7 : a4.eval (.tmp 7) = .int .i64 dy := by rw [← hA]; exact (by simp [hz2])
            have y8 : a4.eval (.tmp 8) = .int .i64 k := by rw [← hA]; exact (by simp [w8])
            have hd_a4 : a4.defers = [] := by rw [← hA]; simp only [defers_put, hd2, hd_a1]
            clear hA
            show (Code.region 6 opsTr_6 false).wpIn _ _ _ _ _ _
            refine region_p 3 ?_
            intro K hK
            refine ListK.move (i := 0) (v := .int .i64 k) rfl (by simp [y8]) ?_
            refine ListK.bin (i := 1) (u := .int .i64 k) (u' := .int .i64 1) (v := .int .i64 (k + 1)) rfl (by simp [hz_a4]) (by simp) (add3 (by omega) (by omega) _) ?_
            refine ListK.assign (i := 2) (v := .int .i64 ((k + 1 : Nat) : Int)) rfl (by simp [hz_a4]) ?_
            skip
            have hmu : ∀ b : Act, b.eval (.tmp 8) = .int .i64 ((k + 1 : Nat) : Int) → ord.length - (intOf (b.eval (.tmp 8))).toNat < ord.length - (intOf (a.eval (.tmp 8))).toNat := by
              intro b e
              rw [e, t8]
              simp only [intOf]
              omega
            refine ListK.done (hK _ _ ⟨⟨k + 1, dy, by omega, by simp only [size_put, hz_a4], by simp only [defers_put, hd_a4], (by simp [y1]), (by simp [y2]), (by simp [y3]), (by simp [y7]), (by simp [hz_a4]), hb.trans (hb3'.mono hb.size), by rw [hstep, Bool.true_and], ?_⟩, hmu _ (by simp [hz_a4])⟩)
            intro d hd
            rw [htk, List.mem_append, List.mem_singleton] at hd
            rcases hd with hd | rfl
            · exact hdn d hd
            · exact ⟨by omega, by omega⟩
      · obtain rfl : k = ord.length := by omega
        refine wpIn_cond (t := false) (by simp [hsz]) (wpIn_exit ?_)
        generalize hA : Act.put _ _ _ = a1
        have hz_a1 : a1.tmps.size = 66 := by rw [← hA]; simp only [size_put, hsz]
        have u1 : a1.eval (.tmp 1) = .slice A1 ord.length c1 := by rw [← hA]; exact (by simp [t1])
        have u2 : a1.eval (.tmp 2) = .slice A2 dys.length c2 := by rw [← hA]; exact (by simp [t2])
        have hd_a1 : a1.defers = [] := by rw [← hA]; simp only [defers_put, hdf]
        clear hA
        show (Code.seq _ _).wpIn _ _ _ _ _ _
        refine wpIn_seq (region_p 1 ?_)
        intro K hK
        refine ListK.assign (i := 0) (v := .bool true) rfl (by simp) ?_
        refine ListK.done (hK _ _ (wpIn_ret ?_))
        show bodyPost Try.prog Try.f22 (TP W (truthB t l ord dys)) Exit.ret _ _
        exact hret _ _ true (by simp only [defers_put, hd_a1]) (by simp [hz_a1]) hB2 (by rw [truthB, hgo, List.drop_length]; simp [isGo, hlen, hlen2])
    · skip
      refine wpIn_seq (wpIn_seq (region_p 14 ?_))
      intro K hK
      refine ListK.move (i := 0) (v := .slice A1 ord.length c1) rfl (by simp [u1]) ?_
      refine ListK.len (i := 1) (u := .slice A1 ord.length c1) (v := .int .i64 ord.length) rfl (by simp [hz_a1]) (ln25 _ _ _ _ _) rfl ?_
      refine ListK.field (i := 2) (u := .pointer (some ⟨b3, 0, none⟩)) (v := .pointer (some ⟨b3, 2, none⟩)) rfl (by simp [u3]) (fa24_2 _) ?_
      refine ListK.load (i := 3) (p := ⟨b3, 2, none⟩) (v := .slice A l.length c) rfl (by simp [hz_a1]) (ld22 (q2')) ?_
      refine ListK.len (i := 4) (u := .slice A l.length c) (v := .int .i64 l.length) rfl (by simp [hz_a1]) (ln22 _ _ _ _ _) rfl ?_
      refine ListK.bin (i := 5) (u := .int .i64 ord.length) (u' := .int .i64 l.length) (v := .bool false) rfl (by simp [hz_a1]) (by simp [hz_a1]) (neqF (by omega) _) ?_
      refine ListK.move (i := 6) (v := .bool false) rfl (by simp [hz_a1]) ?_
      refine ListK.move (i := 7) (v := .slice A2 dys.length c2) rfl (by simp [u2]) ?_ (hw := wanted_g (e := 15) (b' := false) rfl (by simp [hz_a1]) rfl)
      refine ListK.lenW (i := 8) (u := .slice A2 dys.length c2) (v := .int .i64 dys.length) rfl (by simp [hz_a1]) (ln25 _ _ _ _ _) rfl ?_ (hw := wanted_g (e := 15) (b' := false) rfl (by simp [hz_a1]) rfl)
      refine ListK.field (i := 9) (u := .pointer (some ⟨b3, 0, none⟩)) (v := .pointer (some ⟨b3, 2, none⟩)) rfl (by simp [u3]) (fa24_2 _) ?_ (hw := wanted_g (e := 15) (b' := false) rfl (by simp [hz_a1]) rfl)
      refine ListK.load (i := 10) (p := ⟨b3, 2, none⟩) (v := .slice A l.length c) rfl (by simp [hz_a1]) (ld22 (q2')) ?_ (hw := wanted_g (e := 15) (b' := false) rfl (by simp [hz_a1]) rfl)
      refine ListK.lenW (i := 11) (u := .slice A l.length c) (v := .int .i64 l.length) rfl (by simp [hz_a1]) (ln22 _ _ _ _ _) rfl ?_ (hw := wanted_g (e := 15) (b' := false) rfl (by simp [hz_a1]) rfl)
      refine ListK.bin (i := 12) (u := .int .i64 dys.length) (u' := .int .i64 l.length) (v := .bool true) rfl (by simp [hz_a1]) (by simp [hz_a1]) (neqT (by omega) _) ?_ (hw := wanted_g (e := 15) (b' := false) rfl (by simp [hz_a1]) rfl)
      refine ListK.pick (i := 13) (b := false) (v := .bool true) rfl (by simp [hz_a1]) (by simp [hz_a1]) ?_
      refine ListK.done (hK _ _ ?_)
      clear hK K
      refine wpIn_cond (t := true) (by simp [hz_a1]) ?_
      generalize hA : Act.put _ _ _ = a2
      have hz_a2 : a2.tmps.size = 66 := by rw [← hA]; simp only [size_put, hz_a1]
      have v1 : a2.eval (.tmp 1) = .slice A1 ord.length c1 := by rw [← hA]; exact (by simp [u1])
      have hd_a2 : a2.defers = [] := by rw [← hA]; simp only [defers_put, hd_a1]
      clear hA
      refine wpIn_seq (region_p 1 ?_)
      intro K hK
      refine ListK.assign (i := 0) (v := .bool false) rfl (by simp) ?_
      refine ListK.done (hK _ _ (wpIn_ret ?_))
      show bodyPost Try.prog Try.f22 (TP W (truthB t l ord dys)) Exit.ret _ _
      exact hret _ _ false (by simp only [defers_put, hd_a2]) (by simp [hz_a2]) hB1 (by rw [truthB]; simp [hlen2])
  · skip
    refine wpIn_seq (wpIn_seq (region_p 14 ?_))
    intro K hK
    refine ListK.move (i := 0) (v := .slice A1 ord.length c1) rfl (by simp [u1]) ?_
    refine ListK.len (i := 1) (u := .slice A1 ord.length c1) (v := .int .i64 ord.length) rfl (by simp [hz_a1]) (ln25 _ _ _ _ _) rfl ?_
    refine ListK.field (i := 2) (u := .pointer (some ⟨b3, 0, none⟩)) (v := .pointer (some ⟨b3, 2, none⟩)) rfl (by simp [u3]) (fa24_2 _) ?_
    refine ListK.load (i := 3) (p := ⟨b3, 2, none⟩) (v := .slice A l.length c) rfl (by simp [hz_a1]) (ld22 (q2')) ?_
    refine ListK.len (i := 4) (u := .slice A l.length c) (v := .int .i64 l.length) rfl (by simp [hz_a1]) (ln22 _ _ _ _ _) rfl ?_
    refine ListK.bin (i := 5) (u := .int .i64 ord.length) (u' := .int .i64 l.length) (v := .bool true) rfl (by simp [hz_a1]) (by simp [hz_a1]) (neqT (by omega) _) ?_
    refine ListK.move (i := 6) (v := .bool true) rfl (by simp [hz_a1]) ?_
    refine ListK.passG (i := 7) (e := 15) (b' := true) rfl rfl (by simp [hz_a1]) rfl ?_
    refine ListK.passG (i := 8) (e := 15) (b' := true) rfl rfl (by simp [hz_a1]) rfl ?_
    refine ListK.passG (i := 9) (e := 15) (b' := true) rfl rfl (by simp [hz_a1]) rfl ?_
    refine ListK.passG (i := 10) (e := 15) (b' := true) rfl rfl (by simp [hz_a1]) rfl ?_
    refine ListK.passG (i := 11) (e := 15) (b' := true) rfl rfl (by simp [hz_a1]) rfl ?_
    refine ListK.passG (i := 12) (e := 15) (b' := true) rfl rfl (by simp [hz_a1]) rfl ?_
    refine ListK.pick (i := 13) (b := true) (v := .bool true) rfl (by simp [hz_a1]) (by simp) ?_
    refine ListK.done (hK _ _ ?_)
    clear hK K
    refine wpIn_cond (t := true) (by simp [hz_a1]) ?_
    generalize hA : Act.put _ _ _ = a2
    have hz_a2 : a2.tmps.size = 66 := by rw [← hA]; simp only [size_put, hz_a1]
    have v1 : a2.eval (.tmp 1) = .slice A1 ord.length c1 := by rw [← hA]; exact (by simp [u1])
    have hd_a2 : a2.defers = [] := by rw [← hA]; simp only [defers_put, hd_a1]
    clear hA
    refine wpIn_seq (region_p 1 ?_)
    intro K hK
    refine ListK.assign (i := 0) (v := .bool false) rfl (by simp) ?_
    refine ListK.done (hK _ _ (wpIn_ret ?_))
    show bodyPost Try.prog Try.f22 (TP W (truthB t l ord dys)) Exit.ret _ _
    exact hret _ _ false (by simp only [defers_put, hd_a2]) (by simp [hz_a2]) hB1 (by rw [truthB]; simp [hlen])
end Go.Proofs.Ytfcnombmphophaa
namespace Go.Proofs.Ytfcnombmphophaa
open Go.RowKit Go.Shelf
/-- The memory of Batch: the batch at block h, the result at h + 1, what is made at h + 2; a list of sales that is owned. -/
structure BtM (w : World) (h : Nat) (o t : Int) (A : Option Addr) (n c : Nat) (v : Value) (xs : List Sale) (W : World) : Prop where
  kb : Whole W h 24 #[.int .i64 o, .int .i64 t, .slice A n c]
  kr : Whole W (h + 1) 31 #[.int .i64 0, .int .i64 0, .slice none 0 0]
  kx : Whole W (h + 2) 31 #[.int .i64 o, .int .i64 t, v]
  low : Below h w W
  own : W.ownsRow (h + 3) 61 5 v xs.length (salesL xs)
section
variable {w W W' : World} {h : Nat} {o t : Int} {A : Option Addr} {n c : Nat} {v : Value} {xs : List Sale}
theorem BtM.base (b : BtM w h o t A n c v xs W) : h + 3 ≤ W.heap.size := b.kx.lt
theorem BtM.below (b : BtM w h o t A n c v xs W) (hb : Below W.heap.size W W') : BtM w h o t A n c v xs W' :=
  ⟨b.kb.below hb b.kb.lt, b.kr.below hb b.kr.lt, b.kx.below hb b.kx.lt, b.low.trans (hb.mono (by have := b.base; omega)), b.own.kept (grown_of_below hb) (by cases v.ownBlock <;> simp)⟩
theorem BtM.far (b : BtM w h o t A n c v xs W) {g : Nat} (hg : g < h + 3) : some g ≠ v.ownBlock := fun e => by have := (b.own.lt g e.symm).1; omega
theorem BtM.put (b : BtM w h o t A n c v xs W) {g cap : Nat} {s : Sale} (hown : W'.ownsRow (h + 3) 61 5 (.slice (some ⟨g, 0, none⟩) (xs.length + 1) cap) (xs.length + 1) (salesL xs ++ saleL s)) (hgr : W.grownBy W' v.ownBlock) :
    BtM w h o t A n c (.slice (some ⟨g, 0, none⟩) (xs.length + 1) cap) (xs ++ [s]) (W'.setCell ⟨h + 2, 2, none⟩ (.slice (some ⟨g, 0, none⟩) (xs.length + 1) cap)) := by
  have k0 : Whole W' h 24 _ := (hgr.block _ b.kb.lt (b.far (by omega))).trans b.kb
  have k1 : Whole W' (h + 1) 31 _ := (hgr.block _ b.kr.lt (b.far (by omega))).trans b.kr
  have k2 : Whole W' (h + 2) 31 _ := (hgr.block _ b.kx.lt (b.far (by omega))).trans b.kx
  have hlo : Below h w W' := b.low.grown hgr (by have := b.base; omega) (fun k e => by have := (b.own.lt k e).1; omega)
  refine ⟨k0.far (by simp) _, k1.far (by simp) _, k2.set 2 _, hlo.setCell (p := ⟨h + 2, 2, none⟩) (by simp) _, ?_⟩
  rw [salesL_app]
  refine World.ownsRow.kept ?_ (grown_set W' ⟨h + 2, 2, none⟩ _) (.inr ?_)
  · simpa using hown
  · intro e
    have hg : g = h + 2 := by simpa [Value.ownBlock] using e
    have := (hown.lt g rfl).1
    omega
end
theorem bd46r (x y : Int) (w : World) : (Instr.build 46 #[(0, .int .i64 x), (1, .int .i64 y)]).run Try.prog w = .ok (.agg #[.int .i64 x, .int .i64 y]) w := by
  go_simp
theorem bd61r (s : Sale) (w : World) : (Instr.build 61 #[(0, .int .i64 s.src), (1, .int .i64 s.dst), (2, .int .i64 s.many), (3, .agg #[.int .i64 s.lo, .int .i64 s.hi])]).run Try.prog w = .ok (saleV s) w := by
  unfold saleV
  go_simp
noncomputable def opsBa0 : Array Oper := (Try.f18.body.bind (regionOf 0)).getD #[]
noncomputable def opsBa1 : Array Oper := (Try.f18.body.bind (regionOf 1)).getD #[]
noncomputable def opsBa2 : Array Oper := (Try.f18.body.bind (regionOf 2)).getD #[]
noncomputable def opsBa3 : Array Oper := (Try.f18.body.bind (regionOf 3)).getD #[]
noncomputable def opsBa4 : Array Oper := (Try.f18.body.bind (regionOf 4)).getD #[]
noncomputable def opsBa5 : Array Oper := (Try.f18.body.bind (regionOf 5)).getD #[]
noncomputable def opsBa6 : Array Oper := (Try.f18.body.bind (regionOf 6)).getD #[]
noncomputable def opsBa7 : Array Oper := (Try.f18.body.bind (regionOf 7)).getD #[]
noncomputable def roundBa : Code := .seq (.seq (.region 3 opsBa3 false) (.cond (.tmp 15) .skip (.exit 0))) (.seq (.block 1 (.seq (.region 5 opsBa5 false) (.region 6 opsBa6 false))) (.region 4 opsBa4 false))
noncomputable def code18 : Code := .seq (.region 0 opsBa0 false) (.seq (.region 1 opsBa1 false) (.seq (.seq (.region 2 opsBa2 false) (.block 0 (.loop roundBa))) (.seq (.region 7 opsBa7 false) .ret)))
theorem body18 : Try.f18.body = some code18 := by kernel_rfl
set_option maxHeartbeats 2000000 in
theorem batch_any (o t : Int) (A : Option Addr) (l : List Sale) (c : Nat) (W : World) (hl : l.length ≤ 60) (hs : SalesAt W W.heap.size A l) :
    Calls Try.prog 18 #[.agg #[.int .i64 o, .int .i64 t, .slice A l.length c]] W
      fun e w' => ∃ A' c', e = .returned (.agg #[.int .i64 o, .int .i64 t, .slice A' l.length c']) ∧ SalesAt w' w'.heap.size A' l ∧ Below W.heap.size W w' := by
  refine (callsIn_wide (n := 5)).1 (callsIn_of_wp Try.func18 body18 trivial ?_ rfl)
  obtain ⟨a, ha⟩ : ∃ a : Act, a = { tmps := #[.agg #[.int .i64 o, .int .i64 t, .slice A l.length c]] ++ Array.replicate (Try.f18.ntmps - (#[.agg #[.int .i64 o, .int .i64 t, .slice A l.length c]] : Array Value).size) undef, defers := [] } := ⟨_, rfl⟩
  have hsz : a.tmps.size = 43 := by rw [ha]; simp [Try.ntmps18]
  have t0 : a.eval (.tmp 0) = .agg #[.int .i64 o, .int .i64 t, .slice A l.length c] := by rw [ha]; simp [Act.eval]
  have hdf : a.defers = [] := by rw [ha]
  rw [← ha]
  clear ha
  unfold code18
  refine wpIn_seq (region_p 2 ?_)
  intro K hK
  refine ListK.box (i := 0) (u := .agg #[.int .i64 o, .int .i64 t, .slice A l.length c]) rfl (by simp [t0]) (bx24 W _ _ _ _ _) ?_
  refine ListK.alloc (i := 1) rfl (al31 _) ?_
  refine ListK.done (hK _ _ ?_)
  clear hK K
  generalize hA : Act.put _ _ _ = a1
  have hz_a1 : a1.tmps.size = 43 := by rw [← hA]; simp only [size_put, hsz]
  have u1 : a1.eval (.tmp 1) = .pointer (some ⟨W.heap.size, 0, none⟩) := by rw [← hA]; exact (by simp [hsz])
  have u2 : a1.eval (.tmp 2) = .pointer (some ⟨(W.alloc (.cells #[.int .i64 o, .int .i64 t, .slice A l.length c] 24)).heap.size, 0, none⟩) := by rw [← hA]; exact (by simp [hsz])
  have hd_a1 : a1.defers = [] := by rw [← hA]; simp only [defers_put, hdf]
  clear hA
  rw [World.size_alloc] at u2
  have wb := (Whole.new W 24 #[.int .i64 o, .int .i64 t, .slice A l.length c]).alloc (.cells #[.int .i64 0, .int .i64 0, .slice none 0 0] 31)
  have wr := Whole.new (W.alloc (.cells #[.int .i64 o, .int .i64 t, .slice A l.length c] 24)) 31 #[.int .i64 0, .int .i64 0, .slice none 0 0]
  have hB1 : Below W.heap.size W ((W.alloc (.cells #[.int .i64 o, .int .i64 t, .slice A l.length c] 24)).alloc (.cells #[.int .i64 0, .int .i64 0, .slice none 0 0] 31)) := ((Below.refl _ W).alloc (Nat.le_refl _) _).alloc (by simp) _
  have hz1 : ((W.alloc (.cells #[.int .i64 o, .int .i64 t, .slice A l.length c] 24)).alloc (.cells #[.int .i64 0, .int .i64 0, .slice none 0 0] 31)).heap.size = W.heap.size + 2 := by simp
  rw [World.size_alloc] at wr
  generalize hh : W.heap.size = h at *
  generalize (W.alloc (.cells #[.int .i64 o, .int .i64 t, .slice A l.length c] 24)).alloc (.cells #[.int .i64 0, .int .i64 0, .slice none 0 0] 31) = W1 at *
  refine wpIn_seq (region_p 7 ?_)
  intro K hK
  refine ListK.field (i := 0) (u := .pointer (some ⟨h, 0, none⟩)) (v := .pointer (some ⟨h, 0, none⟩)) rfl (by simp [u1]) (fa24_0 _) ?_
  refine ListK.load (i := 1) (p := ⟨h, 0, none⟩) (v := .int .i64 o) rfl (by simp [hz_a1]) (ld3 (wb.cell 0)) ?_
  refine ListK.field (i := 2) (u := .pointer (some ⟨h, 0, none⟩)) (v := .pointer (some ⟨h, 1, none⟩)) rfl (by simp [u1]) (fa24_1 _) ?_
  refine ListK.load (i := 3) (p := ⟨h, 1, none⟩) (v := .int .i64 t) rfl (by simp [hz_a1]) (ld3 (wb.cell 1)) ?_
  refine ListK.bld (i := 4) (ps := #[(0, .int .i64 o), (1, .int .i64 t)]) (v := .agg #[.int .i64 o, .int .i64 t, .slice none 0 0]) rfl (by simp [hz_a1]) (bd31 _ _ _) ?_
  refine ListK.alloc (i := 5) rfl (al31 W1) ?_
  refine ListK.store (i := 6) (u := .pointer (some ⟨W1.heap.size, 0, none⟩)) (u' := .agg #[.int .i64 o, .int .i64 t, .slice none 0 0]) rfl (by simp [hz_a1]) (by simp [hz_a1]) (st31n W1 _ _ _ _ _) ?_
  refine ListK.done (hK _ _ ?_)
  clear hK K
  generalize hA : Act.put _ _ _ = a2
  have hz_a2 : a2.tmps.size = 43 := by rw [← hA]; simp only [size_put, hz_a1]
  have v1 : a2.eval (.tmp 1) = .pointer (some ⟨h, 0, none⟩) := by rw [← hA]; exact (by simp [u1])
  have v2 : a2.eval (.tmp 2) = .pointer (some ⟨h + 1, 0, none⟩) := by rw [← hA]; exact (by simp [u2])
  have v3 : a2.eval (.tmp 3) = .pointer (some ⟨W1.heap.size, 0, none⟩) := by rw [← hA]; exact (by simp [hz_a1])
  have hd_a2 : a2.defers = [] := by rw [← hA]; simp only [defers_put, hd_a1]
  clear hA
  have hm : BtM W h o t A l.length c (.slice none 0 0) [] (W1.alloc (.cells #[.int .i64 o, .int .i64 t, .slice none 0 0] 31)) := by
    refine ⟨wb.alloc _, wr.alloc _, ?_, hB1.alloc (by omega) _, World.ownsRow_nil _ _ _ _⟩
    have := Whole.new W1 31 #[.int .i64 o, .int .i64 t, .slice none 0 0]
    rwa [hz1] at this
  generalize W1.alloc (.cells #[.int .i64 o, .int .i64 t, .slice none 0 0] 31) = W2 at *
  rw [hz1] at v3
  refine wpIn_seq (wpIn_seq (region_p 1 ?_))
  intro K hK
  refine ListK.assign (i := 0) (v := .int .i64 0) rfl (by simp) ?_
  refine ListK.done (hK _ _ ?_)
  clear hK K
  refine wpIn_block (wpIn_loop (fun a W' => ∃ (k : Nat) (v : Value), k ≤ l.length ∧ a.tmps.size = 43 ∧ a.defers = [] ∧ a.eval (.tmp 1) = .pointer (some ⟨h, 0, none⟩) ∧ a.eval (.tmp 2) = .pointer (some ⟨h + 1, 0, none⟩) ∧ a.eval (.tmp 3) = .pointer (some ⟨h + 2, 0, none⟩) ∧ a.eval (.tmp 4) = .int .i64 k ∧ BtM W h o t A l.length c v (l.take k) W') (fun a _ => l.length - (intOf (a.eval (.tmp 4))).toNat)
    ⟨0, _, Nat.zero_le _, by simp only [size_put, hz_a2], by simp only [defers_put, hd_a2], (by simp [v1]), (by simp [v2]), (by simp [v3]), (by simp [hz_a2]), hm⟩ ?_)
  clear hsz t0 hdf hz_a1 u1 u2 hd_a1 hz_a2 v1 v2 v3 hd_a2 a a1 a2 wb wr hB1 hz1 hm
  rintro a W2 ⟨k, v, hk, hsz, hdf, t1, t2, t3, t4, hm⟩
  have hkb2 := hm.kb.cell 2
  refine wpIn_seq (wpIn_seq (region_p 5 ?_))
  intro K hK
  refine ListK.move (i := 0) (v := .int .i64 k) rfl (by simp [t4]) ?_
  refine ListK.field (i := 1) (u := .pointer (some ⟨h, 0, none⟩)) (v := .pointer (some ⟨h, 2, none⟩)) rfl (by simp [t1]) (fa24_2 _) ?_
  refine ListK.load (i := 2) (p := ⟨h, 2, none⟩) (v := .slice A l.length c) rfl (by simp [hsz]) (ld22 (hkb2)) ?_
  refine ListK.len (i := 3) (u := .slice A l.length c) (v := .int .i64 l.length) rfl (by simp [hsz]) (ln22 _ _ _ _ _) rfl ?_
  refine ListK.bin (i := 4) (u := .int .i64 k) (u' := .int .i64 (l.length : Int)) (v := .bool (decide (k < (l.length : Int)))) rfl (by simp [hsz]) (by simp [hsz]) (lss3 _) ?_
  refine ListK.done (hK _ _ ?_)
  clear hK K
  have htl : (l.take k).length = k := by rw [List.length_take]; omega
  by_cases hkl : k < l.length
  · refine wpIn_cond (t := true) (by simp [hsz]; omega) (wpIn_skip ?_)
    generalize hA : Act.put _ _ _ = a1
    have hz_a1 : a1.tmps.size = 43 := by rw [← hA]; simp only [size_put, hsz]
    have u1 : a1.eval (.tmp 1) = .pointer (some ⟨h, 0, none⟩) := by rw [← hA]; exact (by simp [t1])
    have u2 : a1.eval (.tmp 2) = .pointer (some ⟨h + 1, 0, none⟩) := by rw [← hA]; exact (by simp [t2])
    have u3 : a1.eval (.tmp 3) = .pointer (some ⟨h + 2, 0, none⟩) := by rw [← hA]; exact (by simp [t3])
    have u4 : a1.eval (.tmp 4) = .int .i64 k := by rw [← hA]; exact (by simp [t4])
    have hd_a1 : a1.defers = [] := by rw [← hA]; simp only [defers_put, hdf]
    clear hA
    have htk := List.take_succ_eq_append_getElem hkl
    obtain ⟨b, off, hA, hbB, s0, s1, s2, s3, s4⟩ := (hs.below hm.low (Nat.le_refl _)) k _ (List.getElem?_eq_getElem hkl)
    subst hA
    generalize l[k] = s at *
    show (Code.seq _ _).wpIn _ _ _ _ _ _
    refine wpIn_seq (wpIn_block (wpIn_seq (region_p 7 ?_)))
    intro K5 hK5
    refine ListK.field (i := 0) (u := .pointer (some ⟨h, 0, none⟩)) (v := .pointer (some ⟨h, 2, none⟩)) rfl (by simp [u1]) (fa24_2 _) ?_
    refine ListK.load (i := 1) (p := ⟨h, 2, none⟩) (v := .slice (some ⟨b, off, none⟩) l.length c) rfl (by simp [hz_a1]) (ld22 (hkb2)) ?_
    refine ListK.move (i := 2) (v := .int .i64 k) rfl (by simp [u4]) ?_
    refine ListK.index (i := 3) (u := .slice (some ⟨b, off, none⟩) l.length c) (u' := .int .i64 k) (v := .pointer (some ⟨b, off + k * 5, none⟩)) rfl (by simp [hz_a1]) (by simp [hz_a1]) (ix22 hkl _) ?_
    refine ListK.load (i := 4) (p := ⟨b, off + k * 5, none⟩) (v := saleV s) rfl (by simp [hz_a1]) (ld73 s0 s1 s2 s3 s4) ?_
    refine ListK.alloc (i := 5) rfl (al73 W2) ?_
    refine ListK.store (i := 6) (u := .pointer (some ⟨W2.heap.size, 0, none⟩)) (u' := saleV s) rfl (by simp [hz_a1]) (by simp [hz_a1]) (sa73 W2 _) ?_
    refine ListK.done (hK5 _ _ ?_)
    have hwx := Whole.new W2 73 (saleC s)
    have hm1 := hm.below ((Below.refl _ W2).alloc (Nat.le_refl _) (.cells (saleC s) 73))
    generalize hbx : W2.heap.size = bx at *
    generalize W2.alloc (.cells (saleC s) 73) = W3 at *
    clear hm s0 s1 s2 s3 s4 hkb2 hbx W2
    generalize hA : Act.put _ _ _ = a2
    have hz_a2 : a2.tmps.size = 43 := by rw [← hA]; simp only [size_put, hz_a1]
    have x1 : a2.eval (.tmp 1) = .pointer (some ⟨h, 0, none⟩) := by rw [← hA]; exact (by simp [u1])
    have x2 : a2.eval (.tmp 2) = .pointer (some ⟨h + 1, 0, none⟩) := by rw [← hA]; exact (by simp [u2])
    have x3 : a2.eval (.tmp 3) = .pointer (some ⟨h + 2, 0, none⟩) := by rw [← hA]; exact (by simp [u3])
    have x4 : a2.eval (.tmp 4) = .int .i64 k := by rw [← hA]; exact (by simp [u4])
    have x5 : a2.eval (.tmp 5) = .pointer (some ⟨bx, 0, none⟩) := by rw [← hA]; exact (by simp [hz_a1])
    have hd_a2 : a2.defers = [] := by rw [← hA]; simp only [defers_put, hd_a1]
    clear hA
    have c0 : W3.cell? ⟨bx, 0, none⟩ = some (.int .i64 s.src) := hwx.cell 0
    have c1 : W3.cell? ⟨bx, 1, none⟩ = some (.int .i64 s.dst) := hwx.cell 1
    have c2 : W3.cell? ⟨bx, 2, none⟩ = some (.int .i64 s.many) := hwx.cell 2
    have c3 : W3.cell? ⟨bx, 3, none⟩ = some (.int .i64 s.lo) := hwx.cell 3
    have c4 : W3.cell? ⟨bx, 4, none⟩ = some (.int .i64 s.hi) := hwx.cell 4
    have hkx2 := hm1.kx.cell 2
    show (Code.region 6 opsBa6 false).wpIn _ _ _ _ _ _
    refine region_p 20 ?_
    intro K6 hK6
    refine ListK.field (i := 0) (u := .pointer (some ⟨h + 2, 0, none⟩)) (v := .pointer (some ⟨h + 2, 2, none⟩)) rfl (by simp [x3]) (fa31_2 _) ?_
    refine ListK.load (i := 1) (p := ⟨h + 2, 2, none⟩) (v := v) rfl (by simp [hz_a2]) (ld29 (hkx2)) ?_
    refine ListK.field (i := 2) (u := .pointer (some ⟨bx, 0, none⟩)) (v := .pointer (some ⟨bx, 0, none⟩)) rfl (by simp [x5]) (fa73_0 _) ?_
    refine ListK.load (i := 3) (p := ⟨bx, 0, none⟩) (v := .int .i64 s.src) rfl (by simp [hz_a2]) (ld3 (c0)) ?_
    refine ListK.field (i := 4) (u := .pointer (some ⟨bx, 0, none⟩)) (v := .pointer (some ⟨bx, 1, none⟩)) rfl (by simp [x5]) (fa73_1 _) ?_
    refine ListK.load (i := 5) (p := ⟨bx, 1, none⟩) (v := .int .i64 s.dst) rfl (by simp [hz_a2]) (ld3 (c1)) ?_
    refine ListK.field (i := 6) (u := .pointer (some ⟨bx, 0, none⟩)) (v := .pointer (some ⟨bx, 2, none⟩)) rfl (by simp [x5]) (fa73_2 _) ?_
    refine ListK.load (i := 7) (p := ⟨bx, 2, none⟩) (v := .int .i64 s.many) rfl (by simp [hz_a2]) (ld3 (c2)) ?_
    refine ListK.field (i := 8) (u := .pointer (some ⟨bx, 0, none⟩)) (v := .pointer (some ⟨bx, 3, none⟩)) rfl (by simp [x5]) (fa73_3 _) ?_
    refine ListK.field (i := 9) (u := .pointer (some ⟨bx, 3, none⟩)) (v := .pointer (some ⟨bx, 3, none⟩)) rfl (by simp [hz_a2]) (fa71_0 _) ?_
    refine ListK.load (i := 10) (p := ⟨bx, 3, none⟩) (v := .int .i64 s.lo) rfl (by simp [hz_a2]) (ld3 (c3)) ?_
    refine ListK.field (i := 11) (u := .pointer (some ⟨bx, 0, none⟩)) (v := .pointer (some ⟨bx, 3, none⟩)) rfl (by simp [x5]) (fa73_3 _) ?_
    refine ListK.field (i := 12) (u := .pointer (some ⟨bx, 3, none⟩)) (v := .pointer (some ⟨bx, 4, none⟩)) rfl (by simp [hz_a2]) (fa71_1 _) ?_
    refine ListK.load (i := 13) (p := ⟨bx, 4, none⟩) (v := .int .i64 s.hi) rfl (by simp [hz_a2]) (ld3 (c4)) ?_
    refine ListK.bld (i := 14) (ps := #[(0, .int .i64 s.lo), (1, .int .i64 s.hi)]) (v := .agg #[.int .i64 s.lo, .int .i64 s.hi]) rfl (by simp [hz_a2]) (bd46r _ _ _) ?_
    refine ListK.bld (i := 15) (ps := #[(0, .int .i64 s.src), (1, .int .i64 s.dst), (2, .int .i64 s.many), (3, .agg #[.int .i64 s.lo, .int .i64 s.hi])]) (v := saleV s) rfl (by simp [hz_a2]) (bd61r _ _) ?_
    refine ListK.bsl (i := 16) (ps := #[(0, saleV s)]) (v := .slice (some ⟨W3.heap.size, 0, none⟩) 1 1) rfl (by simp [hz_a2]) (bs29_1 _ _) ?_
    have hm2 := hm1.below ((Below.refl _ W3).alloc (Nat.le_refl _) (.cells (saleC s) 61))
    have hnw := news5 (W := W3) s 61
    generalize W3.alloc (.cells (saleC s) 61) = W4 at *
    refine ListK.append61 (i := 17) rfl hm2.own (by simp [hz_a2]) ⟨W3.heap.size, 0, none⟩ 1 (saleL s) (by simp [hz_a2]) rfl hnw (by simp [saleL, Value.oneCell']) (by unfold maxLen; omega) (by omega) hm2.base ?_
    intro g cap W5 hown hgr hat
    have hm3 := hm2.put hown hgr
    have hc2 : W5.cell? ⟨h + 2, 2, none⟩ = some v := (hgr.cell (hm2.kx.cell 2) (hm2.far (by simp)))
    have hf2 : W5.frozen? ⟨h + 2, 2, none⟩ = false := (hgr.frozen_far ⟨h + 2, 2, none⟩ hm2.kx.lt (hm2.far (by simp))).trans (hm2.kx.frozen 2)
    refine ListK.field (i := 18) (u := .pointer (some ⟨h + 2, 0, none⟩)) (v := .pointer (some ⟨h + 2, 2, none⟩)) rfl (by simp [x3]) (fa31_2 _) ?_
    refine ListK.store (i := 19) (u := .pointer (some ⟨h + 2, 2, none⟩)) (u' := .slice (some ⟨g, 0, none⟩) ((l.take k).length + 1) cap) rfl (by simp [hz_a2]) (by simp [hz_a2]) (st29 hc2 hf2) ?_
    refine ListK.done (hK6 _ _ ?_)
    generalize hA : Act.put _ _ _ = a3
    have hz_a3 : a3.tmps.size = 43 := by rw [← hA]; simp only [size_put, hz_a2]
    have y1 : a3.eval (.tmp 1) = .pointer (some ⟨h, 0, none⟩) := by rw [← hA]; exact (by simp [x1])
    have y2 : a3.eval (.tmp 2) = .pointer (some ⟨h + 1, 0, none⟩) := by rw [← hA]; exact (by simp [x2])
    have y3 : a3.eval (.tmp 3) = .pointer (some ⟨h + 2, 0, none⟩) := by rw [← hA]; exact (by simp [x3])
    have y4 : a3.eval (.tmp 4) = .int .i64 k := by rw [← hA]; exact (by simp [x4])
    have hd_a3 : a3.defers = [] := by rw [← hA]; simp only [defers_put, hd_a2]
    clear hA
    show (Code.region 4 opsBa4 false).wpIn _ _ _ _ _ _
    refine region_p 3 ?_
    intro K4 hK4
    refine ListK.move (i := 0) (v := .int .i64 k) rfl (by simp [y4]) ?_
    refine ListK.bin (i := 1) (u := .int .i64 k) (u' := .int .i64 1) (v := .int .i64 (k + 1)) rfl (by simp [hz_a3]) (by simp) (add3 (by omega) (by omega) _) ?_
    refine ListK.assign (i := 2) (v := .int .i64 ((k + 1 : Nat) : Int)) rfl (by simp [hz_a3]) ?_
    skip
    have hmu : ∀ b : Act, b.eval (.tmp 4) = .int .i64 ((k + 1 : Nat) : Int) → l.length - (intOf (b.eval (.tmp 4))).toNat < l.length - (intOf (a.eval (.tmp 4))).toNat := by
      intro b e
      rw [e, t4]
      simp only [intOf]
      omega
    refine ListK.done (hK4 _ _ ⟨⟨k + 1, _, by omega, by simp only [size_put, hz_a3], by simp only [defers_put, hd_a3], (by simp [y1]), (by simp [y2]), (by simp [y3]), (by simp [hz_a3]), by rw [htk]; exact hm3⟩, hmu _ (by simp [hz_a3])⟩)
  · obtain rfl : k = l.length := by omega
    refine wpIn_cond (t := false) (by simp [hsz]) (wpIn_exit ?_)
    generalize hA : Act.put _ _ _ = a1
    have hz_a1 : a1.tmps.size = 43 := by rw [← hA]; simp only [size_put, hsz]
    have u1 : a1.eval (.tmp 1) = .pointer (some ⟨h, 0, none⟩) := by rw [← hA]; exact (by simp [t1])
    have u2 : a1.eval (.tmp 2) = .pointer (some ⟨h + 1, 0, none⟩) := by rw [← hA]; exact (by simp [t2])
    have u3 : a1.eval (.tmp 3) = .pointer (some ⟨h + 2, 0, none⟩) := by rw [← hA]; exact (by simp [t3])
    have hd_a1 : a1.defers = [] := by rw [← hA]; simp only [defers_put, hdf]
    clear hA
    rw [List.take_length] at hm
    obtain ⟨A', c', rfl, hsa⟩ := sales_of_owns hm.own
    have ht2 := hm.kx
    have x0 := ht2.cell 0
    have x1 := ht2.cell 1
    have x2 := ht2.cell 2
    have r := hm.kr
    show (Code.seq _ _).wpIn _ _ _ _ _ _
    refine wpIn_seq (region_p 2 ?_)
    intro K hK
    refine ListK.load (i := 0) (p := ⟨h + 2, 0, none⟩) (v := .agg #[.int .i64 o, .int .i64 t, .slice A' l.length c']) rfl (by simp [u3]) (ld31' ⟨x0, x1, x2⟩) ?_
    refine ListK.store (i := 1) (u := .pointer (some ⟨h + 1, 0, none⟩)) (u' := .agg #[.int .i64 o, .int .i64 t, .slice A' l.length c']) rfl (by simp [u2]) (by simp [hz_a1]) (st31 (r.cell 0) (r.cell 1) (r.cell 2) (r.frozen 0) (r.frozen 1) (r.frozen 2)) ?_
    refine ListK.done (hK _ _ (wpIn_ret ?_))
    have k3 := ((r.set 0 (.int .i64 o)).set 1 (.int .i64 t)).set 2 (.slice A' l.length c')
    refine bodyPost_ret (res31 (b := h + 1) Try.results18 (by simp [u2]) (k3.cell 0) (k3.cell 1) (k3.cell 2)) (by simp only [defers_put, hd_a1]) ⟨A', c', rfl, ?_, ?_⟩
    · have hne : ∀ k s, l[k]? = some s → ∃ b off, A' = some ⟨b, off, none⟩ ∧ b < W2.heap.size ∧ b ≠ h + 1 ∧ SaleAt W2 b off k s := by
        intro k s hks
        obtain ⟨b, off, e1, e2, e3⟩ := hsa k s hks
        refine ⟨b, off, e1, e2, ?_, e3⟩
        rcases hm.own.2 with ⟨e4, _⟩ | ⟨g, cap, cur, e4, e5, _⟩
        · rw [e1] at e4; cases e4
        · rw [e1] at e4; cases e4; omega
      intro k s hks
      obtain ⟨b, off, e1, e2, e3, e4⟩ := hne k s hks
      refine ⟨b, off, e1, by simpa [World.setCell] using e2, e4.keep fun i => ?_⟩
      rw [cell_set_far (by simpa using e3), cell_set_far (by simpa using e3), cell_set_far (by simpa using e3)]
    · have hlow := hm.low
      exact ((hlow.setCell (p := ⟨h + 1, 0, none⟩) (by simp) _).setCell (p := ⟨h + 1, 1, none⟩) (by simp) _).setCell (p := ⟨h + 1, 2, none⟩) (by simp) _
end Go.Proofs.Ytfcnombmphophaa
namespace Go.Proofs.Ytfcnombmphophaa
open Go.RowKit Go.Shelf
section
variable {ops : Array Oper} {K : Act → World → Prop} {k i d : Nat} {a : Act} {w : World} {ty : TypeId} {pos : String} {aft : Array Edge}
end
end Go.Proofs.Ytfcnombmphophaa
namespace Go.Proofs.Ytfcnombmphophaa
open Go.RowKit Go.Shelf
theorem hasI_app (l : List Int) (x n : Int) : hasI (l ++ [x]) n = (hasI l n || x == n) := by
  simp [hasI]
theorem stockR_app (t : Int) (l : List Sale) (pre : List Int) (n ow : Int) : stockR t l (pre ++ [n]) ow = stepR l ow (stockR t l pre ow) n := by
  simp [stockR]
theorem sold_step {l : List Sale} {st : Nat → Int} {n : Nat} {x : Int} {i : Nat} (hn : n < l.length) (h0 : 0 ≤ (saleOf l n).src) (h1 : 0 ≤ (saleOf l n).dst) (hne : (saleOf l n).src ≠ (saleOf l n).dst) (hx : st i = x) : sold st (saleOf l n) i = stepR l i x n := by
  rw [sold_delta, hx]
  unfold stepR delta
  rw [Int.toNat_natCast]
  generalize saleOf l n = s at *
  obtain ⟨a, b, m, lo, hi⟩ := s
  simp only [] at *
  have e1 : (i = b.toNat) = (b = (i : Int)) := propext ⟨fun h => by omega, fun h => by omega⟩
  have e2 : (i = a.toNat) = (a = (i : Int)) := propext ⟨fun h => by omega, fun h => by omega⟩
  simp only [e1, e2]
  split <;> split <;> omega
theorem isGo_prove {o t : Int} {l : List Sale} (hv : Valid o t l) (dys : List Int) : ∀ (ns pre : List Int) (sn : Nat → Bool) (st : Nat → Int) (la : Int), (∀ m : Nat, sn m = hasI pre m) → (∀ i : Nat, st i = stockR t l pre i) → isGo t l dys pre ns la = proveGo l dys ns sn st la
  | [], _, _, _, _, _, _ => rfl
  | n :: ns, pre, sn, st, la, h1, h2 => by
    unfold isGo proveGo
    cases hI : inR n 0 ((l.length : Int) - 1) with
    | false => simp
    | true =>
      have hin := inR_iff.1 hI
      obtain ⟨m, rfl⟩ : ∃ m : Nat, n = m := ⟨n.toNat, by omega⟩
      have hm : m < l.length := by omega
      have hs : l[m]? = some l[m] := List.getElem?_eq_getElem hm
      have hf := hv.at_ hs
      have hso := saleOf_eq hs
      rw [Int.toNat_natCast]
      simp only [Bool.true_and, Bool.true_eq_false, if_false]
      unfold mayR
      rw [Int.toNat_natCast, h1 m]
      cases hasI pre m with
      | true => simp
      | false =>
        simp only [Bool.not_false, Bool.true_and, Bool.false_eq_true, if_false]
        generalize (dys[m]?).getD 0 = dy
        cases inR dy (saleOf l m).lo (saleOf l m).hi with
        | false => simp
        | true =>
          simp only [Bool.true_and, Bool.true_eq_false, if_false]
          by_cases h3 : dy < la
          · rw [if_pos h3]
            have : ¬ la ≤ dy := by omega
            simp [this]
          · rw [if_neg h3]
            have h3' : la ≤ dy := by omega
            have hst : st (saleOf l m).src.toNat = stockR t l pre (saleOf l m).src := by
              rw [h2, Int.toNat_of_nonneg (by rw [hso]; exact hf.1)]
            rw [hst]
            by_cases h4 : stockR t l pre (saleOf l m).src < (saleOf l m).many
            · rw [if_pos h4]
              have : ¬ (saleOf l m).many ≤ stockR t l pre (saleOf l m).src := by omega
              simp [this]
            · rw [if_neg h4]
              have h4' : (saleOf l m).many ≤ stockR t l pre (saleOf l m).src := by omega
              simp only [h3', h4', decide_true, Bool.true_and]
              refine isGo_prove hv dys ns _ _ _ _ ?_ ?_
              · intro j
                rw [hasI_app]
                unfold updB
                by_cases e : j = m
                · simp [e]
                · rw [if_neg e, h1 j]
                  have : ¬ m = j := fun h => e h.symm
                  simp
                  intro h
                  exact absurd h (by omega)
              · intro i
                rw [stockR_app]
                exact sold_step hm (by rw [hso]; exact hf.1) (by rw [hso]; exact hf.2.2.1) (by rw [hso]; exact hf.2.2.2.2.1) (h2 i)
theorem truth_prove {o t : Int} {l : List Sale} (h0 : fault o t l = 0) (ord dys : List Int) : proveB o t l ord dys = truthB t l ord dys := by
  unfold proveB truthB
  rw [h0]
  rw [isGo_prove (valid_of_fault h0) dys ord [] (fun _ => false) (upd (fun _ => 0) 0 t) 0 (fun m => rfl) (fun i => ?_)]
  · simp
  · unfold stockR upd
    simp
end Go.Proofs.Ytfcnombmphophaa
namespace Go.Proofs.Ytfcnombmphophaa
open Go.RowKit Go.Shelf
theorem ListK.pickW {P : Program} {ops : Array Oper} {K : Act → World → Prop} {k i d : Nat} {a : Act} {w : World} {ty : TypeId} {pos : String} {aft : Array Edge} {gd : Option (Nat × Bool)} {c x y : Operand} {b : Bool} {v : Value} (hi : ops[i]? = some ⟨some d, .pick c x y, ty, pos, aft, gd⟩) (hc : a.eval c = .bool b) (hx : (if b then a.eval x else a.eval y) = v)
    (h : ListK P ops K k (i + 1) (a.put (some d) v) w) (hw : Region.wanted ⟨some d, .pick c x y, ty, pos, aft, gd⟩ (yielded ops a.tmps) = true := by rfl) : ListK P ops K (k + 1) i a w :=
  ListK.valW hi hw (by simp [execOp, hc, asBool]; cases b <;> simpa using hx) h
end Go.Proofs.Ytfcnombmphophaa
namespace Go.Proofs.Ytfcnombmphophaa
open Go.RowKit Go.Shelf
end Go.Proofs.Ytfcnombmphophaa
namespace Go.Proofs.Ytfcnombmphophaa
open Go.RowKit Go.Shelf
theorem ListK.conv {P : Program} {ops : Array Oper} {K : Act → World → Prop} {k i d : Nat} {a : Act} {w : World} {ty : TypeId} {pos : String} {aft : Array Edge} {gd : Option (Nat × Bool)} {s t : TypeId} {x : Operand} {u v : Value} (hi : ops[i]? = some ⟨some d, .convert s t x, ty, pos, aft, gd⟩) (hx : a.eval x = u) (hv : (convert s t u).run P w = .ok v w)
    (h : ListK P ops K k (i + 1) (a.put (some d) v) w) (hw : Region.wanted ⟨some d, .convert s t x, ty, pos, aft, gd⟩ (yielded ops a.tmps) = true := by rfl) : ListK P ops K (k + 1) i a w :=
  ListK.valW hi hw (by simp [execOp, hx, hv]) h
end Go.Proofs.Ytfcnombmphophaa
namespace Go.Proofs.Ytfcnombmphophaa
open Go.RowKit Go.Shelf
theorem al24 (w : World) : (Instr.alloc 24 true (.tuple #[])).run Try.prog w = .ok (.pointer (some ⟨w.heap.size, 0, none⟩)) (w.alloc (.cells #[.int .i64 0, .int .i64 0, .slice none 0 0] 24)) := by
  go_simp
theorem bd24 (x y : Int) (w : World) : (Instr.build 24 #[(0, .int .i64 x), (1, .int .i64 y)]).run Try.prog w = .ok (.agg #[.int .i64 x, .int .i64 y, .slice none 0 0]) w := by
  go_simp
theorem st24n (w : World) (x y : Int) (A : Option Addr) (n c : Nat) : (Instr.storeAt 24 (.pointer (some ⟨w.heap.size, 0, none⟩)) (.agg #[.int .i64 x, .int .i64 y, .slice A n c])).run Try.prog (w.alloc (.cells #[.int .i64 0, .int .i64 0, .slice none 0 0] 24)) = .ok () (w.alloc (.cells #[.int .i64 x, .int .i64 y, .slice A n c] 24)) := by
  go_simp
theorem st24 {w : World} {b : Nat} {u1 u2 u3 : Value} {x y : Int} {A : Option Addr} {n c : Nat} (h0 : w.cell? ⟨b, 0, none⟩ = some u1) (h1 : w.cell? ⟨b, 1, none⟩ = some u2) (h2 : w.cell? ⟨b, 2, none⟩ = some u3) (f0 : w.frozen? ⟨b, 0, none⟩ = false) (f1 : w.frozen? ⟨b, 1, none⟩ = false) (f2 : w.frozen? ⟨b, 2, none⟩ = false) :
    (Instr.storeAt 24 (.pointer (some ⟨b, 0, none⟩)) (.agg #[.int .i64 x, .int .i64 y, .slice A n c])).run Try.prog w = .ok () (((w.setCell ⟨b, 0, none⟩ (.int .i64 x)).setCell ⟨b, 1, none⟩ (.int .i64 y)).setCell ⟨b, 2, none⟩ (.slice A n c)) := by
  go_simp
theorem bs22_1 (s : Sale) (w : World) : (Instr.buildSlice 22 1 #[(0, saleV s)]).run Try.prog w = .ok (.slice (some ⟨w.heap.size, 0, none⟩) 1 1) (w.alloc (.cells (saleC s) 73)) := by
  unfold saleV saleC
  go_simp
theorem st22 {w : World} {p : Addr} {v : Value} {A : Option Addr} {n c : Nat} (h : w.cell? p = some v) (hf : w.frozen? p = false) : (Instr.storeAt 22 (.pointer (some p)) (.slice A n c)).run Try.prog w = .ok () (w.setCell p (.slice A n c)) := by
  go_simp
/-- A list of sales that is owned reads as it should. -/
theorem sales_of_owns73 {W : World} {base : Nat} {v : Value} {xs : List Sale} (h : W.ownsRow base 73 5 v xs.length (salesL xs)) : ∃ A c, v = .slice A xs.length c ∧ SalesAt W W.heap.size A xs := by
  rcases h.2 with ⟨rfl, h0⟩ | ⟨g, cap, cur, rfl, hb, hg, hc, _⟩
  · refine ⟨none, 0, by rw [h0], fun k x hx => ?_⟩
    have : xs = [] := List.eq_nil_of_length_eq_zero h0
    subst this
    simp at hx
  · refine ⟨_, cap, rfl, fun k s hs => ⟨g, 0, rfl, (Array.getElem?_eq_some_iff.1 hg).1, ?_⟩⟩
    have hcell : ∀ j u, (salesL xs)[j]? = some u → W.cell? ⟨g, j, none⟩ = some u := by
      intro j u hu
      have := h.cells (g := g) rfl j u hu
      simp only [Addr.add] at this
      split at this
      · rename_i h0
        subst h0
        simpa using this
      · simpa using this
    have hat := salesL_at xs k s hs
    refine ⟨?_, ?_, ?_, ?_, ?_⟩
    · exact (congrArg (fun q => W.cell? ⟨g, q, none⟩) (by omega)).trans (hcell (k * 5 + 0) _ (hat 0 (by omega)))
    · exact (congrArg (fun q => W.cell? ⟨g, q, none⟩) (by omega)).trans (hcell (k * 5 + 1) _ (hat 1 (by omega)))
    · exact (congrArg (fun q => W.cell? ⟨g, q, none⟩) (by omega)).trans (hcell (k * 5 + 2) _ (hat 2 (by omega)))
    · exact (congrArg (fun q => W.cell? ⟨g, q, none⟩) (by omega)).trans (hcell (k * 5 + 3) _ (hat 3 (by omega)))
    · exact (congrArg (fun q => W.cell? ⟨g, q, none⟩) (by omega)).trans (hcell (k * 5 + 4) _ (hat 4 (by omega)))
/-- The memory of Without. -/
structure WtM (w : World) (h : Nat) (o t : Int) (A : Option Addr) (n c : Nat) (v : Value) (xs : List Sale) (W : World) : Prop where
  kb : Whole W h 24 #[.int .i64 o, .int .i64 t, .slice A n c]
  kr : Whole W (h + 1) 24 #[.int .i64 0, .int .i64 0, .slice none 0 0]
  kx : Whole W (h + 2) 24 #[.int .i64 o, .int .i64 t, v]
  low : Below h w W
  own : W.ownsRow (h + 3) 73 5 v xs.length (salesL xs)
section
variable {w W W' : World} {h : Nat} {o t : Int} {A : Option Addr} {n c : Nat} {v : Value} {xs : List Sale}
theorem WtM.base (b : WtM w h o t A n c v xs W) : h + 3 ≤ W.heap.size := b.kx.lt
theorem WtM.below (b : WtM w h o t A n c v xs W) (hb : Below W.heap.size W W') : WtM w h o t A n c v xs W' :=
  ⟨b.kb.below hb b.kb.lt, b.kr.below hb b.kr.lt, b.kx.below hb b.kx.lt, b.low.trans (hb.mono (by have := b.base; omega)), b.own.kept (grown_of_below hb) (by cases v.ownBlock <;> simp)⟩
theorem WtM.far (b : WtM w h o t A n c v xs W) {g : Nat} (hg : g < h + 3) : some g ≠ v.ownBlock := fun e => by have := (b.own.lt g e.symm).1; omega
theorem WtM.put (b : WtM w h o t A n c v xs W) {g cap : Nat} {s : Sale} (hown : W'.ownsRow (h + 3) 73 5 (.slice (some ⟨g, 0, none⟩) (xs.length + 1) cap) (xs.length + 1) (salesL xs ++ saleL s)) (hgr : W.grownBy W' v.ownBlock) :
    WtM w h o t A n c (.slice (some ⟨g, 0, none⟩) (xs.length + 1) cap) (xs ++ [s]) (W'.setCell ⟨h + 2, 2, none⟩ (.slice (some ⟨g, 0, none⟩) (xs.length + 1) cap)) := by
  have k0 : Whole W' h 24 _ := (hgr.block _ b.kb.lt (b.far (by omega))).trans b.kb
  have k1 : Whole W' (h + 1) 24 _ := (hgr.block _ b.kr.lt (b.far (by omega))).trans b.kr
  have k2 : Whole W' (h + 2) 24 _ := (hgr.block _ b.kx.lt (b.far (by omega))).trans b.kx
  have hlo : Below h w W' := b.low.grown hgr (by have := b.base; omega) (fun k e => by have := (b.own.lt k e).1; omega)
  refine ⟨k0.far (by simp) _, k1.far (by simp) _, k2.set 2 _, hlo.setCell (p := ⟨h + 2, 2, none⟩) (by simp) _, ?_⟩
  rw [salesL_app]
  refine World.ownsRow.kept ?_ (grown_set W' ⟨h + 2, 2, none⟩ _) (.inr ?_)
  · simpa using hown
  · intro e
    have hg : g = h + 2 := by simpa [Value.ownBlock] using e
    have := (hown.lt g rfl).1
    omega
end
section
variable {ops : Array Oper} {K : Act → World → Prop} {Kp : Nat → World → World → Prop} {fuel i d : Nat} {listed : Array Bool} {a : Act} {w : World} {ty : TypeId} {pos : String} {aft : Array Edge}
theorem info73 : (Try.prog.info? 73).map (fun i => (i.zero, i.size, i.bytes)) = some (some (.agg #[.int .i64 0, .int .i64 0, .int .i64 0, .int .i64 0, .int .i64 0]), 5, 40) := by kernel_rfl
theorem StepK.app22 {s x : Operand} (hi : ops[i]? = some ⟨some d, .call { callee := .builtin .append, args := #[s, x], argTypes := #[22, 22] }, ty, pos, aft, none⟩)
    {base n : Nat} {v : Value} {xs : List Value} (hown : w.ownsRow base 73 5 v n xs) (hs : a.eval s = v) (ad : Addr) (c : Nat) (news : List Value) (hx : a.eval x = .slice (some ad) 1 c) (hl : news.length = 5)
    (hnews : ∀ j u, news[j]? = some u → w.cell? (ad.add j) = some u) (h1 : ∀ u ∈ news, u.oneCell' = true) (h63 : n + 1 ≤ maxLen) (hbytes : (n + 1) * 40 ≤ 140737488355328) (hbase : base ≤ w.heap.size)
    (h : ∀ g cap w', w'.ownsRow base 73 5 (.slice (some ⟨g, 0, none⟩) (n + 1) cap) (n + 1) (xs ++ news) → w.grownBy w' v.ownBlock → (v.ownBlock = some g ∨ g = w.heap.size) → Kp i w w' ∧ AnyK Try.prog ops K Kp fuel (listed.setIfInBounds i true) (a.put (some d) (.slice (some ⟨g, 0, none⟩) (n + 1) cap)) w') :
    StepK Try.prog ops K Kp fuel listed a w i := by
  obtain ⟨i0, hi0, hi1, hi2, hi3⟩ := info_parts info73
  unfold StepK opG
  simp only [hi]
  rw [if_pos (show Region.wanted _ _ = true from rfl)]
  exact wp_append_lies _ s x 22 rfl base 73 i0 _ 5 40 Try.underlying22 hi0 hi1 hi2 hi3 rfl (by omega) v n xs hs hown ad 1 c news hx (by simpa using hl) hnews h1 (by omega) h63 hbytes hbase w.heap.size rfl (fun g cap w' a b c _ => h g cap w' a b c)
end
section
attribute [local irreducible] AnyK StepK
/-- A sale's five cells. -/
def Cells5 (b o : Nat) (s : Sale) (w : World) : Prop := w.cell? ⟨b, o, none⟩ = some (.int .i64 s.src) ∧ w.cell? ⟨b, o + 1, none⟩ = some (.int .i64 s.dst) ∧ w.cell? ⟨b, o + 2, none⟩ = some (.int .i64 s.many) ∧ w.cell? ⟨b, o + 3, none⟩ = some (.int .i64 s.lo) ∧ w.cell? ⟨b, o + 4, none⟩ = some (.int .i64 s.hi)
theorem Cells5.of {b o : Nat} {s : Sale} {w w' : World} (h : Cells5 b o s w) (hk : ∀ i u, w.cell? ⟨b, i, none⟩ = some u → w'.cell? ⟨b, i, none⟩ = some u) : Cells5 b o s w' :=
  ⟨hk _ _ h.1, hk _ _ h.2.1, hk _ _ h.2.2.1, hk _ _ h.2.2.2.1, hk _ _ h.2.2.2.2⟩
end
end Go.Proofs.Ytfcnombmphophaa
namespace Go.Proofs.Ytfcnombmphophaa
open Go.RowKit Go.Shelf
end Go.Proofs.Ytfcnombmphophaa
namespace Go.Proofs.Ytfcnombmphophaa
open Go.RowKit Go.Shelf
section
variable {ops : Array Oper} {K : Act → World → Prop} {Kp : Nat → World → World → Prop} {fuel i d : Nat} {listed : Array Bool} {a : Act} {w : World} {ty : TypeId} {pos : String} {aft : Array Edge} {gd : Option (Nat × Bool)}
end
abbrev RCn (b3 : Nat) (o t : Int) (A : Option Addr) (nl c : Nat) : World → Prop := fun w => w.cell? ⟨b3, 0, none⟩ = some (.int .i64 o) ∧ w.cell? ⟨b3, 1, none⟩ = some (.int .i64 t) ∧ w.cell? ⟨b3, 2, none⟩ = some (.slice A nl c)
theorem RCn.of {b3 : Nat} {o t : Int} {A : Option Addr} {nl c : Nat} {w w' : World} (h : RCn b3 o t A nl c w) (hk : ∀ i u, w.cell? ⟨b3, i, none⟩ = some u → w'.cell? ⟨b3, i, none⟩ = some u) : RCn b3 o t A nl c w' := ⟨hk _ _ h.1, hk _ _ h.2.1, hk _ _ h.2.2⟩
section
attribute [local irreducible] AnyK StepK
end
end Go.Proofs.Ytfcnombmphophaa
namespace Go.Proofs.Ytfcnombmphophaa
open Go.RowKit Go.Shelf
section
attribute [local irreducible] AnyK StepK
end
end Go.Proofs.Ytfcnombmphophaa
namespace Go.Proofs.Ytfcnombmphophaa
open Go.RowKit Go.Shelf
theorem eql3T {x y : Operand} {m n : Int} (h : m = n) (w : World) : (do eqGuard .eql 3 x y (.int .i64 m) (.int .i64 n); binOp .eql 3 (.int .i64 m) (.int .i64 n) : Sem Value).run Try.prog w = .ok (.bool true) w := by
  subst h
  go_simp
theorem eql3F {x y : Operand} {m n : Int} (h : m ≠ n) (w : World) : (do eqGuard .eql 3 x y (.int .i64 m) (.int .i64 n); binOp .eql 3 (.int .i64 m) (.int .i64 n) : Sem Value).run Try.prog w = .ok (.bool false) w := by
  go_simp
end Go.Proofs.Ytfcnombmphophaa
namespace Go.Proofs.Ytfcnombmphophaa
open Go.RowKit Go.Shelf
end Go.Proofs.Ytfcnombmphophaa
namespace Go.Proofs.Ytfcnombmphophaa
open Go.RowKit Go.Shelf
theorem ListK.passU {P : Program} {ops : Array Oper} {K : Act → World → Prop} {k i j d : Nat} {a : Act} {w : World} {ty : TypeId} {pos : String} {aft : Array Edge} {op : Op} {b : Bool} {e : Nat} (hi : ops[i]? = some ⟨some d, op, ty, pos, aft, some (j, b)⟩) (hj : (ops[j]?).bind (·.dst) = some e) (he : a.eval (.tmp e) = undef)
    (h : ListK P ops K k (i + 1) (a.put (some d) undef) w) : ListK P ops K (k + 1) i a w := ListK.passW hi (wanted_undef hj he) h
theorem tried_no {o t : Int} {l : List Sale} (h : fault o t l = 0) (hf : fitsB t l = false) : triedE o t l true = 9 := by simp [triedE, h, hf]
theorem tried_yes {o t : Int} {l : List Sale} (h : fault o t l = 0) (hf : fitsB t l = true) : triedE o t l true = 0 := by simp [triedE, h, hf]
theorem ord_truth {o t : Int} {l : List Sale} {xs ds : List Int} (h : OrdRes o t l xs ds) (h0 : fault o t l = 0) (hf : fitsB t l = true) : truthB t l xs ds = true ∧ xs.length = l.length ∧ ds.length = l.length := by
  have hp := order_prove (tried_yes h0 hf) h
  have ht := hp
  rw [truth_prove h0] at ht
  refine ⟨ht, ?_⟩
  unfold truthB at ht
  simp only [Bool.and_eq_true, decide_eq_true_eq] at ht
  exact ⟨ht.1, ht.2.1⟩
end Go.Proofs.Ytfcnombmphophaa
namespace Go.Proofs.Ytfcnombmphophaa
open Go.RowKit Go.Shelf
theorem stepE_le (l : List Sale) (d : Nat) (E : Nat → Int) (k e : Nat) : stepE l d E k e ≤ E e := by
  unfold stepE
  split
  · unfold upd
    split
    · rename_i h
      subst h
      omega
    · exact Int.le_refl _
  · exact Int.le_refl _
theorem foldE_le (l : List Sale) (d : Nat) : ∀ (ks : List Nat) (E : Nat → Int) (e : Nat), (ks.foldl (stepE l d) E) e ≤ E e
  | [], _, _ => Int.le_refl _
  | k :: ks, E, e => Int.le_trans (foldE_le l d ks (stepE l d E k) e) (stepE_le l d E k e)
theorem stepE_low {l : List Sale} {d k e : Nat} (hb : d.testBit k = false) (he : e ≤ d) (E : Nat → Int) : stepE l d E k e = E e := by
  unfold stepE
  split
  · unfold upd
    rw [if_neg (by have := or_gt hb; omega)]
  · rfl
theorem foldE_low {l : List Sale} {d e : Nat} (he : e ≤ d) : ∀ (ks : List Nat), (∀ k, k ∈ ks → d.testBit k = false) → ∀ E : Nat → Int, (ks.foldl (stepE l d) E) e = E e
  | [], _, _ => rfl
  | k :: ks, h, E => (foldE_low he ks (fun j hj => h j (List.mem_cons_of_mem _ hj)) _).trans (stepE_low (h k List.mem_cons_self) he E)
theorem foldE_hit {l : List Sale} {d k : Nat} : ∀ (ks : List Nat), (∀ j, j ∈ ks → d.testBit j = false) → k ∈ ks → ∀ E : Nat → Int, max (E d) (saleOf l k).lo ≤ (saleOf l k).hi → (ks.foldl (stepE l d) E) (d ||| 2 ^ k) ≤ max (E d) (saleOf l k).lo
  | [], _, h, _, _ => by cases h
  | j :: ks, hb, hk, E, hle => by
    by_cases e : j = k
    · subst e
      refine Int.le_trans (foldE_le l d ks _ _) ?_
      unfold stepE
      rw [if_pos hle]
      unfold upd
      rw [if_pos rfl]
      omega
    · have hk' : k ∈ ks := by
        rcases List.mem_cons.1 hk with h | h
        · exact absurd h.symm e
        · exact h
      have hd := stepE_low (l := l) (hb j List.mem_cons_self) (Nat.le_refl d) E
      have := foldE_hit ks (fun i hi => hb i (List.mem_cons_of_mem _ hi)) hk' (stepE l d E j) (by rw [hd]; exact hle)
      rwa [hd] at this
theorem next_bits (t : Int) (l : List Sale) (d : Nat) : ∀ k, k ∈ nextL t l d → d.testBit k = false := by
  intro k hk
  have := (List.mem_filter.1 hk).2
  simp [nextB] at this
  exact this.2.1
theorem earlyTo_low (t : Int) (l : List Sale) {e : Nat} : ∀ j, e ≤ j → earlyTo t l j e = earlyTo t l e e := by
  intro j
  induction j with
  | zero => intro h; rw [show e = 0 by omega]
  | succ j ih =>
    intro h
    by_cases e1 : e = j + 1
    · rw [e1]
    · rw [← ih (by omega)]
      conv => lhs; unfold earlyTo
      split
      · rfl
      · exact foldE_low (by omega) _ (next_bits t l j) _
theorem earlyTo_mono (t : Int) (l : List Sale) (e : Nat) : ∀ j i, earlyTo t l (j + i) e ≤ earlyTo t l j e
  | j, 0 => Int.le_refl _
  | j, i + 1 => by
    refine Int.le_trans ?_ (earlyTo_mono t l e j i)
    show earlyTo t l (j + i + 1) e ≤ _
    conv => lhs; unfold earlyTo
    split
    · exact Int.le_refl _
    · exact foldE_le l _ _ _ _
theorem early_at (t : Int) (l : List Sale) {d : Nat} (h : d < 2 ^ l.length) : early t l d = earlyTo t l d d := earlyTo_low t l _ (by omega)
/-- One sale on. -/
theorem early_step {t : Int} {l : List Sale} {d k : Nat} (hd : d < 2 ^ l.length) (h1 : early t l d ≠ 101) (hn : nextB t l d k = true) (hle : max (early t l d) (saleOf l k).lo ≤ (saleOf l k).hi) : early t l (d ||| 2 ^ k) ≤ max (early t l d) (saleOf l k).lo := by
  rw [early_at t l hd] at h1 hle ⊢
  have hk : k < l.length := by simp [nextB] at hn; exact hn.1
  have hm := earlyTo_mono t l (d ||| 2 ^ k) (d + 1) (2 ^ l.length - (d + 1))
  rw [show d + 1 + (2 ^ l.length - (d + 1)) = 2 ^ l.length by omega] at hm
  refine Int.le_trans hm ?_
  conv => lhs; unfold earlyTo
  rw [if_neg h1]
  exact foldE_hit _ (next_bits t l d) (List.mem_filter.2 ⟨List.mem_range.2 hk, hn⟩) _ hle
end Go.Proofs.Ytfcnombmphophaa
namespace Go.Proofs.Ytfcnombmphophaa
open Go.RowKit Go.Shelf
/-- A list of sales and a set of them, as one. -/
structure Same (t : Int) (l : List Sale) (pre : List Int) (d : Nat) : Prop where
  bits : ∀ m : Nat, d.testBit m = hasI pre m
  st : ∀ i : Nat, stocksOf t l d i = stockR t l pre i
  lt : d < 2 ^ l.length
  cnt : cnt d l.length = pre.length
theorem Same.zero (t : Int) (l : List Sale) : Same t l [] 0 := by
  refine ⟨fun m => by simp [hasI], fun i => ?_, Nat.two_pow_pos _, cnt_zero _⟩
  unfold stocksOf
  rw [stocksTo_zero]
  unfold stockR upd
  simp
theorem Same.snoc {o t : Int} {l : List Sale} (hv : Valid o t l) {pre : List Int} {d n : Nat} (h : Same t l pre d) (hn : n < l.length) (hb : d.testBit n = false) : Same t l (pre ++ [(n : Int)]) (d ||| 2 ^ n) := by
  have hf := hv.at_ (List.getElem?_eq_getElem hn)
  rw [← saleOf_eq (List.getElem?_eq_getElem hn)] at hf
  refine ⟨fun m => ?_, fun i => ?_, Nat.or_lt_two_pow h.lt (Nat.pow_lt_pow_right (by omega) hn), ?_⟩
  · rw [hasI_app, Nat.testBit_or, h.bits m]
    congr 1
    by_cases e : n = m
    · subst e
      simp
    · rw [Nat.testBit_two_pow_of_ne e]
      symm
      simp
      omega
  · rw [stocksOf_or hb hn, stockR_app]
    exact sold_step hn hf.1 hf.2.2.1 hf.2.2.2.2.1 (h.st i)
  · rw [cnt_or hb, if_pos hn, h.cnt]
    simp
end Go.Proofs.Ytfcnombmphophaa
namespace Go.Proofs.Ytfcnombmphophaa
open Go.RowKit Go.Shelf
end Go.Proofs.Ytfcnombmphophaa
namespace Go.Proofs.Ytfcnombmphophaa
open Go.RowKit Go.Shelf
end Go.Proofs.Ytfcnombmphophaa
namespace Go.Proofs.Ytfcnombmphophaa
open Go.RowKit Go.Shelf
end Go.Proofs.Ytfcnombmphophaa
namespace Go.Proofs.Ytfcnombmphophaa
open Go.RowKit Go.Shelf
set_option maxRecDepth 100000 in
theorem cvu8 {k : Nat} (hk : k < 256) (w : World) : (convert 5 3 (.int .u8 k)).run Try.prog w = .ok (.int .i64 k) w := by
  have h1 : IntKind.i64.wrap (k : Int) = k := by
    rw [IntKind.wrap_i64]
    omega
  go_simp
theorem rem3r {x y : Operand} {m n r : Int} (h0 : 0 ≤ m) (h1 : 0 < n) (hr : m % n = r) (w : World) : (do eqGuard .rem 3 x y (.int .i64 m) (.int .i64 n); binOp .rem 3 (.int .i64 m) (.int .i64 n) : Sem Value).run Try.prog w = .ok (.int .i64 r) w := by
  have h2 : n ≠ 0 := by omega
  have h3 : m.tmod n = m % n := Int.tmod_eq_emod_of_nonneg h0
  have h4 : IntKind.i64.wrap (m % n) = m % n ∨ True := .inr trivial
  subst hr
  rw [← h3]
  go_simp
theorem OpW.conv {P : Program} {p : Value → World → Prop} {d : Nat} {a : Act} {w : World} {ty : TypeId} {pos : String} {aft : Array Edge} {gd : Option (Nat × Bool)} {v : Value} {s t : TypeId} {x : Operand} {u : Value} (hx : a.eval x = u) (hv : (convert s t u).run P w = .ok v w) (hp : p v w) :
    OpW P p ⟨some d, .convert s t x, ty, pos, aft, gd⟩ d a w := OpW.val rfl (by simp [execOp, hx, hv]) hp (Below.refl _ _)
theorem nqF {x y : Operand} {m n : Int} (h : m = n) (w : World) : (do eqGuard .neq 27 x y (.int .i64 m) (.int .i64 n); binOp .neq 27 (.int .i64 m) (.int .i64 n) : Sem Value).run Try.prog w = .ok (.bool false) w := by
  rw [neq27]
  simp [h]
theorem triedE_valid {o t : Int} {l : List Sale} (hv : Valid o t l) : triedE o t l true = if fitsB t l = true then 0 else 9 := by
  unfold triedE
  rw [hv.fault]
  cases fitsB t l <;> simp
theorem whenE_valid {o t : Int} {l : List Sale} (hv : Valid o t l) {k : Nat} (hk : k < l.length) : whenE o t l k = if fitsB t l = true then 0 else 9 := by
  unfold whenE
  rw [inR_iff.2 (show (0 : Int) ≤ k ∧ (k : Int) ≤ (l.length : Int) - 1 by omega)]
  exact triedE_valid hv
theorem whenV_valid {o t : Int} {l : List Sale} (hv : Valid o t l) {k : Nat} (hk : k < l.length) : whenV o t l k = if fitsB t l = true then whenR t l k else (0, 0) := by
  unfold whenV
  rw [whenE_valid hv hk]
  cases fitsB t l <;> simp
end Go.Proofs.Ytfcnombmphophaa
namespace Go.Proofs.Ytfcnombmphophaa
open Go.RowKit Go.Shelf
theorem bs22_z (w : World) : (Instr.buildSlice 22 0 #[]).run Try.prog w = .ok (.slice (some ⟨w.heap.size, 0, none⟩) 0 0) (w.alloc (.cells #[] 73)) := by
  kernel_rfl
theorem salesL_cons (s : Sale) (l : List Sale) : salesL (s :: l) = saleL s ++ salesL l := rfl
theorem salesL_len : ∀ l : List Sale, (salesL l).length = l.length * 5
  | [] => rfl
  | s :: l => by
    rw [salesL_cons, List.length_append, salesL_len l, List.length_cons]
    simp [saleL]
    omega
theorem salesL_both (l m : List Sale) : salesL (l ++ m) = salesL l ++ salesL m := by simp [salesL]
theorem salesL_get : ∀ {l : List Sale} {j : Nat} {u : Value}, (salesL l)[j]? = some u → ∃ k i s, j = k * 5 + i ∧ i < 5 ∧ l[k]? = some s ∧ (saleL s)[i]? = some u
  | [], j, u, h => by simp [salesL] at h
  | s :: l, j, u, h => by
    rw [salesL_cons] at h
    by_cases hj : j < 5
    · rw [List.getElem?_append_left (by simpa [saleL] using hj)] at h
      exact ⟨0, j, s, by omega, hj, rfl, h⟩
    · rw [List.getElem?_append_right (by simp [saleL]; omega)] at h
      obtain ⟨k, i, s', h1, h2, h3, h4⟩ := salesL_get h
      have e : (saleL s).length = 5 := rfl
      exact ⟨k + 1, i, s', by omega, h2, by simpa using h3, h4⟩
theorem salesL_cell {w : World} {B : Nat} {b o : Nat} {l : List Sale} (hs : SalesAt w B (some ⟨b, o, none⟩) l) {j : Nat} {u : Value} (h : (salesL l)[j]? = some u) : w.cell? ⟨b, o + j, none⟩ = some u := by
  obtain ⟨k, i, s, rfl, hi, h3, h4⟩ := salesL_get h
  obtain ⟨b', o', hA, _, s0, s1, s2, s3, s4⟩ := hs k s h3
  cases hA
  have hc : i = 0 ∨ i = 1 ∨ i = 2 ∨ i = 3 ∨ i = 4 := by omega
  rcases hc with rfl | rfl | rfl | rfl | rfl <;> simp [saleL] at h4 <;> subst h4
  · exact s0
  · exact s1
  · exact s2
  · exact s3
  · exact s4
theorem salesL_one {l : List Sale} {u : Value} (h : u ∈ salesL l) : u.oneCell' = true := by
  unfold salesL at h
  obtain ⟨s, _, h2⟩ := List.mem_flatMap.1 h
  simp [saleL] at h2
  rcases h2 with rfl | rfl | rfl | rfl | rfl <;> rfl
theorem sales_addr {w : World} {B : Nat} {A : Option Addr} {l : List Sale} (hs : SalesAt w B A l) : l = [] ∨ ∃ b o, A = some ⟨b, o, none⟩ := by
  cases l with
  | nil => exact .inl rfl
  | cons s l =>
    obtain ⟨b, o, hA, _⟩ := hs 0 s rfl
    exact .inr ⟨b, o, hA⟩
/-- What an append of sales leaves. -/
theorem app22_run (w : World) (ty : TypeId) {base : Nat} {v : Value} {xs ys : List Sale} {A : Option Addr} {c : Nat} (hown : w.ownsRow base 73 5 v xs.length (salesL xs)) (hs : SalesAt w w.heap.size A ys) (hx : xs.length ≤ 100) (hy : ys.length ≤ 100) (hbase : base ≤ w.heap.size) :
    ∃ v' w', (Builtin.append_ #[22, 22] ty #[v, .slice A ys.length c]).run Try.prog w = .ok v' w' ∧ w'.ownsRow base 73 5 v' (xs ++ ys).length (salesL (xs ++ ys)) ∧ w.grownBy w' v.ownBlock ∧ (v'.ownBlock = v.ownBlock ∨ v'.ownBlock = some w.heap.size) := by
  obtain ⟨i0, hi0, hi1, hi2, hi3⟩ := info_parts info73
  by_cases hm : ys = []
  · subst hm
    refine ⟨v, w, ?_, by simpa using hown, ⟨rfl, rfl, rfl, Nat.le_refl _, fun _ _ _ => rfl⟩, .inl rfl⟩
    rcases hown.2 with ⟨rfl, h0⟩ | ⟨g, cap, cur, rfl, hb, hg, hc, _⟩
    · cases A <;> simp [Builtin.append_, run_underlying Try.underlying22, sizeOf, typeInfo, hi0, Builtin.lenOf, Builtin.firstCells, loadCells, loadCellsFrom]
    · cases A <;> simp [Builtin.append_, run_underlying Try.underlying22, sizeOf, typeInfo, hi0, Builtin.lenOf, Builtin.firstCells, hc, storeCells, loadCells, loadCellsFrom]
  · obtain ⟨b, o, rfl⟩ := (sales_addr hs).resolve_left hm
    have hpos : 0 < ys.length := List.length_pos_iff.2 hm
    obtain ⟨g, cap, w', hr, h2, h3, h4, _⟩ := run_append_lies (P := Try.prog) w 22 ty base 73 i0 _ 5 40 Try.underlying22 hi0 hi1 hi2 hi3 rfl (by omega) v xs.length (salesL xs) hown ⟨b, o, none⟩ ys.length c (salesL ys) (salesL_len ys)
      (fun j u hu => by
        have := salesL_cell hs hu
        simp only [Addr.add]
        split
        · rename_i h0
          subst h0
          simpa using this
        · exact this) (fun u hu => salesL_one hu) hpos (by unfold maxLen; omega) (by omega) hbase w.heap.size rfl
    refine ⟨_, w', hr, by rw [List.length_append, salesL_both]; exact h2, h3, ?_⟩
    rcases h4 with h4 | h4
    · exact .inl h4.symm
    · subst h4
      exact .inr rfl
theorem ListK.app22 {ops : Array Oper} {K : Act → World → Prop} {k i d : Nat} {a : Act} {w w' : World} {ty : TypeId} {pos : String} {aft : Array Edge} {s x : Operand} {v v2 v' : Value} (hi : ops[i]? = some ⟨some d, .call { callee := .builtin .append, args := #[s, x], argTypes := #[22, 22] }, ty, pos, aft, none⟩) (hs : a.eval s = v) (hx : a.eval x = v2)
    (hr : (Builtin.append_ #[22, 22] ty #[v, v2]).run Try.prog w = .ok v' w') (h : ListK Try.prog ops K k (i + 1) (a.put (some d) v') w') : ListK Try.prog ops K (k + 1) i a w := by
  refine ListK.val hi rfl ?_ h
  simp [execOp, resolve, invoke, builtin, hs, hx, hr]
/-- A copy of the sales of a batch: what 'append([]Sale{}, sales...)' leaves, behind the store into the cell of another batch. -/
theorem copy_run {W0 w : World} {b3 px : Nat} {A : Option Addr} {l : List Sale} {c : Nat} {ty : TypeId} {x y u : Value} (hs0 : SalesAt W0 b3 A l) (hB : Below b3 W0 w) (hl : l.length ≤ 100) (hp : b3 ≤ px) (hx : Whole w px 24 #[x, y, u]) :
    ∃ v' w', (Builtin.append_ #[22, 22] ty #[.slice (some ⟨w.heap.size, 0, none⟩) 0 0, .slice A l.length c]).run Try.prog (w.alloc (.cells #[] 73)) = .ok v' w' ∧ Below w.heap.size w w' ∧ Whole w' px 24 #[x, y, u] ∧
      w'.ownsRow w.heap.size 73 5 v' l.length (salesL l) ∧
      Below b3 W0 (w'.setCell ⟨px, 2, none⟩ v') ∧ Whole (w'.setCell ⟨px, 2, none⟩ v') px 24 #[x, y, v'] ∧ (w'.setCell ⟨px, 2, none⟩ v').ownsRow w.heap.size 73 5 v' l.length (salesL l) ∧ ∀ g t cs, g ≠ px → g < w.heap.size → Whole w g t cs → Whole (w'.setCell ⟨px, 2, none⟩ v') g t cs := by
  have hB1 : Below w.heap.size w (w.alloc (.cells #[] 73)) := (Below.refl _ w).alloc (Nat.le_refl _) _
  have hown : (w.alloc (.cells #[] 73)).ownsRow w.heap.size 73 5 (.slice (some ⟨w.heap.size, 0, none⟩) 0 0) ([] : List Sale).length (salesL []) := by
    have := World.ownsRow_lit (base := w.heap.size) (e := 73) (size := 5) w (#[] : Array Value) 0 (Nat.le_refl _) (by unfold maxLen; omega) (by simp)
    simpa [salesL] using this
  have hs1 : SalesAt (w.alloc (.cells #[] 73)) (w.alloc (.cells #[] 73)).heap.size A l := by
    have h1 := hs0.below hB (Nat.le_refl _)
    have h2 : b3 ≤ w.heap.size := by have := hx.lt; omega
    exact ((h1.more h2).below hB1 (Nat.le_refl _)).more hB1.size
  obtain ⟨v', w', hr, ho, hg, hv⟩ := app22_run (w.alloc (.cells #[] 73)) ty (c := c) hown hs1 (by simp) hl (by simp)
  rw [List.nil_append] at ho
  have hlow : Below w.heap.size w w' := hB1.grown hg hB1.size (fun k e => by simp [Value.ownBlock] at e; omega)
  have hx' := hx.below hlow hx.lt
  have hne : v'.ownBlock = none ∨ v'.ownBlock ≠ some px := by
    refine .inr fun e => ?_
    have := (ho.lt px e).1
    have := hx.lt
    omega
  refine ⟨v', w', hr, hlow, hx', ho, (hB.trans (hlow.mono (by have := hx.lt; omega))).setCell (p := ⟨px, 2, none⟩) hp _, ?_, ho.kept (grown_set _ _ _) hne, fun g t cs h1 h2 h3 => (h3.below hlow h2).far h1 _⟩
  have := hx'.set 2 v'
  simpa using this
/-- A row of sales that may be written. -/
theorem row_facts {w : World} {B g n c : Nat} {l : List Sale} (h : w.ownsRow B 73 5 (.slice (some ⟨g, 0, none⟩) n c) n (salesL l)) (hn : n = l.length) : B ≤ g ∧ g < w.heap.size ∧ SalesAt w w.heap.size (some ⟨g, 0, none⟩) l ∧ ∀ j, j < n * 5 → w.frozen? ⟨g, j, none⟩ = false := by
  subst hn
  obtain ⟨A, c', e, hs⟩ := sales_of_owns73 h
  cases e
  have hlt := h.lt g rfl
  refine ⟨hlt.1, hlt.2, hs, fun j hj => ?_⟩
  rcases h.2 with ⟨e, _⟩ | ⟨g', cap, cur, e, hb, hg, _⟩
  · cases e
  · cases e
    simp [World.frozen?, hg]
theorem salesL_set : ∀ (l : List Sale) (k : Nat) (s s' : Sale) (j : Nat) (u : Value), l[k]? = some s → j < 5 → saleL s' = (saleL s).set j u → salesL (l.set k s') = (salesL l).set (k * 5 + j) u
  | [], k, s, s', j, u, h, _, _ => by simp at h
  | x :: l, 0, s, s', j, u, h, hj, e => by
    simp at h
    subst h
    rw [List.set_cons_zero, salesL_cons, salesL_cons, e, List.set_append_left _ _ (by simpa [saleL] using hj)]
    simp
  | x :: l, k + 1, s, s', j, u, h, hj, e => by
    have hlen : (saleL x).length = 5 := rfl
    rw [List.set_cons_succ, salesL_cons, salesL_cons, salesL_set l k s s' j u (by simpa using h) hj e, List.set_append_right _ _ (by omega)]
    congr 2
    omega
theorem row_set {w : World} {B g n c : Nat} {l : List Sale} (h : w.ownsRow B 73 5 (.slice (some ⟨g, 0, none⟩) n c) n (salesL l)) {k j : Nat} {s s' : Sale} {u : Value} (hk : l[k]? = some s) (hj : j < 5) (e : saleL s' = (saleL s).set j u) :
    (w.setCell ⟨g, k * 5 + j, none⟩ u).ownsRow B 73 5 (.slice (some ⟨g, 0, none⟩) n c) n (salesL (l.set k s')) := by
  rw [salesL_set l k s s' j u hk hj e]
  refine ⟨by rw [List.length_set]; exact h.1, ?_⟩
  rcases h.2 with ⟨e, _⟩ | ⟨g', cap, cur, e, hb, hg, h1, h2, h3, h4⟩
  · cases e
  · cases e
    refine .inr ⟨g, c, cur.setIfInBounds (k * 5 + j) u, rfl, hb, ?_, h1, h2, by simpa using h3, ?_⟩
    · simp [World.setCell, Array.getElem?_modify, hg]
    · rw [Array.toList_setIfInBounds, ← h4, List.take_set]
/-- A sale with other days. -/
def withDays (s : Sale) (lo hi : Int) : Sale := ⟨s.src, s.dst, s.many, lo, hi⟩
end Go.Proofs.Ytfcnombmphophaa
namespace Go.Proofs.Ytfcnombmphophaa
open Go.RowKit Go.Shelf
theorem bd71 (x y : Int) (w : World) : (Instr.build 71 #[(0, .int .i64 x), (1, .int .i64 y)]).run Try.prog w = .ok (.agg #[.int .i64 x, .int .i64 y]) w := by
  go_simp
theorem st71 {w : World} {b o : Nat} {u v : Value} {x y : Int} (h0 : w.cell? ⟨b, o, none⟩ = some u) (h1 : w.cell? ⟨b, o + 1, none⟩ = some v) (f0 : w.frozen? ⟨b, o, none⟩ = false) (f1 : w.frozen? ⟨b, o + 1, none⟩ = false) :
    (Instr.storeAt 71 (.pointer (some ⟨b, o, none⟩)) (.agg #[.int .i64 x, .int .i64 y])).run Try.prog w = .ok () ((w.setCell ⟨b, o, none⟩ (.int .i64 x)).setCell ⟨b, o + 1, none⟩ (.int .i64 y)) := by
  go_simp
/-- Two days are written. -/
def putDays (W : World) (g o : Nat) (x y : Int) : World := (W.setCell ⟨g, o, none⟩ (.int .i64 x)).setCell ⟨g, o + 1, none⟩ (.int .i64 y)
section
attribute [local irreducible] AnyK StepK
end
end Go.Proofs.Ytfcnombmphophaa
namespace Go.Proofs.Ytfcnombmphophaa
open Go.RowKit Go.Shelf
/-- Sales, each on a day, one behind another: from stocks, the last day being x. -/
def GoP (l : List Sale) : (Nat → Int) → Int → List (Nat × Int) → Prop
  | _, _, [] => True
  | st, x, p :: ps => (saleOf l p.1).many ≤ st (saleOf l p.1).src.toNat ∧ (saleOf l p.1).lo ≤ p.2 ∧ p.2 ≤ (saleOf l p.1).hi ∧ x ≤ p.2 ∧ GoP l (sold st (saleOf l p.1)) p.2 ps
/-- All are other sales, none of them in d. -/
def Fresh (l : List Sale) : Nat → List (Nat × Int) → Prop
  | _, [] => True
  | d, p :: ps => p.1 < l.length ∧ d.testBit p.1 = false ∧ Fresh l (d ||| 2 ^ p.1) ps
def dset (d : Nat) (ps : List (Nat × Int)) : Nat := ps.foldl (fun d p => d ||| 2 ^ p.1) d
def lastD (x : Int) (ps : List (Nat × Int)) : Int := ps.foldl (fun _ p => p.2) x
@[simp] theorem dset_nil (d : Nat) : dset d [] = d := rfl
@[simp] theorem dset_cons (d : Nat) (p : Nat × Int) (ps : List (Nat × Int)) : dset d (p :: ps) = dset (d ||| 2 ^ p.1) ps := rfl
@[simp] theorem lastD_nil (x : Int) : lastD x [] = x := rfl
@[simp] theorem lastD_cons (x : Int) (p : Nat × Int) (ps : List (Nat × Int)) : lastD x (p :: ps) = lastD p.2 ps := rfl
theorem dset_app (d : Nat) (ps qs : List (Nat × Int)) : dset d (ps ++ qs) = dset (dset d ps) qs := List.foldl_append
theorem Fresh.app {l : List Sale} : ∀ {ps qs : List (Nat × Int)} {d : Nat}, Fresh l d (ps ++ qs) ↔ Fresh l d ps ∧ Fresh l (dset d ps) qs
  | [], _, _ => by simp [Fresh]
  | p :: ps, qs, d => by
    simp only [List.cons_append, Fresh, dset_cons]
    rw [Fresh.app (ps := ps)]
    exact ⟨fun ⟨a, b, c, e⟩ => ⟨⟨a, b, c⟩, e⟩, fun ⟨⟨a, b, c⟩, e⟩ => ⟨a, b, c, e⟩⟩
theorem Fresh.lt {l : List Sale} : ∀ {ps : List (Nat × Int)} {d : Nat}, d < 2 ^ l.length → Fresh l d ps → dset d ps < 2 ^ l.length
  | [], _, h, _ => h
  | p :: ps, d, h, ⟨a, _, c⟩ => by
    rw [dset_cons]
    exact Fresh.lt (Nat.or_lt_two_pow h (Nat.pow_lt_pow_right (by omega) a)) c
theorem GoP.app {t : Int} {l : List Sale} : ∀ {ps qs : List (Nat × Int)} {d : Nat} {x : Int}, Fresh l d ps → (GoP l (stocksOf t l d) x (ps ++ qs) ↔ GoP l (stocksOf t l d) x ps ∧ GoP l (stocksOf t l (dset d ps)) (lastD x ps) qs)
  | [], _, _, _, _ => by simp [GoP]
  | p :: ps, qs, d, x, ⟨a, b, c⟩ => by
    simp only [List.cons_append, GoP, dset_cons, lastD_cons]
    rw [← stocksOf_or b a, GoP.app (ps := ps) c]
    exact ⟨fun ⟨a, b, c, e, f, g⟩ => ⟨⟨a, b, c, e, f⟩, g⟩, fun ⟨⟨a, b, c, e, f⟩, g⟩ => ⟨a, b, c, e, f, g⟩⟩
theorem GoP.mono {l : List Sale} : ∀ {ps : List (Nat × Int)} {st : Nat → Int} {x : Int}, GoP l st x ps → x ≤ lastD x ps ∧ ∀ p, p ∈ ps → x ≤ p.2 ∧ p.2 ≤ lastD x ps ∧ (saleOf l p.1).lo ≤ p.2 ∧ p.2 ≤ (saleOf l p.1).hi
  | [], _, x, _ => ⟨Int.le_refl _, fun p h => (by cases h)⟩
  | p :: ps, st, x, ⟨_, a, b, c, d⟩ => by
    obtain ⟨h1, h2⟩ := GoP.mono d
    rw [lastD_cons]
    refine ⟨by omega, fun q hq => ?_⟩
    rcases List.mem_cons.1 hq with rfl | hq
    · exact ⟨c, h1, a, b⟩
    · have := h2 q hq
      omega
theorem GoP.low {l : List Sale} {ps : List (Nat × Int)} {st : Nat → Int} {x y : Int} (h : GoP l st x ps) (hy : ∀ p, p ∈ ps → y ≤ p.2) : GoP l st y ps := by
  cases ps with
  | nil => trivial
  | cons p ps => exact ⟨h.1, h.2.1, h.2.2.1, hy p List.mem_cons_self, h.2.2.2.2⟩
theorem saleOf_valid {o t : Int} {l : List Sale} (hv : Valid o t l) {n : Nat} (hn : n < l.length) : 0 ≤ (saleOf l n).src ∧ (saleOf l n).src < o ∧ 0 ≤ (saleOf l n).dst ∧ (saleOf l n).dst < o ∧ (saleOf l n).src ≠ (saleOf l n).dst ∧ 1 ≤ (saleOf l n).many ∧ (saleOf l n).many ≤ 1000 ∧ 0 ≤ (saleOf l n).lo ∧ (saleOf l n).lo ≤ (saleOf l n).hi ∧ (saleOf l n).hi ≤ 100 := by
  have := hv.at_ (List.getElem?_eq_getElem hn)
  rwa [← saleOf_eq (List.getElem?_eq_getElem hn)] at this
/-- A run begins no sooner than the table says. -/
theorem go_early {o t : Int} {l : List Sale} (hv : Valid o t l) : ∀ {ps : List (Nat × Int)} {d : Nat} {x : Int}, d < 2 ^ l.length → Fresh l d ps → GoP l (stocksOf t l d) x ps → early t l d ≤ x → x ≤ 100 → early t l (dset d ps) ≤ lastD x ps ∧ lastD x ps ≤ 100
  | [], _, _, _, _, _, h, h2 => ⟨h, h2⟩
  | p :: ps, d, x, hd, ⟨f1, f2, f3⟩, ⟨g1, g2, g3, g4, g5⟩, h, h2 => by
    have hf := saleOf_valid hv f1
    rw [← stocksOf_or f2 f1] at g5
    have hs := early_step (t := t) (k := p.1) hd (by omega) (by unfold nextB; simp [f1, f2, g1]) (by omega)
    rw [dset_cons, lastD_cons]
    exact go_early hv (ps := ps) (d := d ||| 2 ^ p.1) (Nat.or_lt_two_pow hd (Nat.pow_lt_pow_right (by omega) f1)) f3 g5 (by omega) (by omega)
theorem run_go {t : Int} {l : List Sale} {d' : Nat} {x' : Int} : ∀ (ns : List Nat) (d : Nat) (x : Int), RunTo t l d x ns d' x' → ∃ ps, Fresh l d ps ∧ dset d ps = d' ∧ GoP l (stocksOf t l d) x ps ∧ lastD x ps = x'
  | [], d, x, ⟨h1, h2⟩ => ⟨[], trivial, h1, trivial, h2⟩
  | n :: ns, d, x, ⟨h1, h2, h3⟩ => by
    obtain ⟨hn, hb, hm⟩ := nextB_facts h1
    obtain ⟨ps, a, b, c, e⟩ := run_go ns _ _ h3
    rw [stocksOf_or hb hn] at c
    exact ⟨(n, max x (saleOf l n).lo) :: ps, ⟨hn, hb, a⟩, b, ⟨hm, Int.le_max_right _ _, h2, Int.le_max_left _ _, c⟩, e⟩
/-- The first day of a set is reached. -/
theorem early_go {o t : Int} {l : List Sale} (hv : Valid o t l) {d : Nat} (h : early t l d ≠ 101) : ∃ ps, Fresh l 0 ps ∧ dset 0 ps = d ∧ GoP l (stocksOf t l 0) 0 ps ∧ lastD 0 ps = early t l d := by
  obtain ⟨ns, hns⟩ := early_run hv _ d h
  exact run_go ns 0 0 hns
/-! The table of last days. -/
theorem stepL_other {l : List Sale} {d e k : Nat} (L : Nat → Int) (h : e ≠ d) : stepL l d L k e = L e := by
  unfold stepL
  split
  · unfold upd
    rw [if_neg h]
  · rfl
theorem foldL_other {l : List Sale} {d e : Nat} (h : e ≠ d) : ∀ (ks : List Nat) (L : Nat → Int), (ks.foldl (stepL l d) L) e = L e
  | [], _ => rfl
  | k :: ks, L => (foldL_other h ks _).trans (stepL_other L h)
/-- What one sale says of the last day of d. -/
def lastOf (l : List Sale) (L : Nat → Int) (d k : Nat) : Int := min (L (d ||| 2 ^ k)) (saleOf l k).hi
theorem foldL_spec {l : List Sale} {d : Nat} : ∀ (ks : List Nat), (∀ k, k ∈ ks → d.testBit k = false) → ∀ L : Nat → Int,
    (∀ k, k ∈ ks → (saleOf l k).lo ≤ lastOf l L d k → lastOf l L d k ≤ (ks.foldl (stepL l d) L) d) ∧ L d ≤ (ks.foldl (stepL l d) L) d ∧
    ((ks.foldl (stepL l d) L) d = L d ∨ ∃ k, k ∈ ks ∧ (saleOf l k).lo ≤ lastOf l L d k ∧ (ks.foldl (stepL l d) L) d = lastOf l L d k)
  | [], _, L => ⟨fun k h => (by cases h), Int.le_refl _, .inl rfl⟩
  | j :: ks, hb, L => by
    have hsame : ∀ k, k ∈ ks → lastOf l (stepL l d L j) d k = lastOf l L d k := fun k hk => by
      unfold lastOf
      rw [stepL_other L (by have := or_gt (hb k (List.mem_cons_of_mem _ hk)); omega)]
    obtain ⟨h1, h2, h3⟩ := foldL_spec ks (fun k hk => hb k (List.mem_cons_of_mem _ hk)) (stepL l d L j)
    have hj : stepL l d L j d = if (saleOf l j).lo ≤ lastOf l L d j then max (L d) (lastOf l L d j) else L d := by
      unfold stepL lastOf
      split
      · simp [upd]
      · rfl
    rw [hj] at h2 h3
    rw [List.foldl_cons]
    refine ⟨fun k hk hle => ?_, ?_, ?_⟩
    · rcases List.mem_cons.1 hk with rfl | hk
      · rw [if_pos hle] at h2
        exact Int.le_trans (Int.le_max_right _ _) h2
      · have := h1 k hk
        rw [hsame k hk] at this
        exact this hle
    · split at h2 <;> omega
    · rcases h3 with h3 | ⟨k, hk, h3, h4⟩
      · split at h3
        · rename_i hle
          by_cases hm : L d ≤ lastOf l L d j
          · exact .inr ⟨j, List.mem_cons_self, hle, by omega⟩
          · exact .inl (by omega)
        · exact .inl h3
      · rw [hsame k hk] at h3 h4
        exact .inr ⟨k, List.mem_cons_of_mem _ hk, h3, h4⟩
theorem lateTo_keep (t : Int) (l : List Sale) {e j : Nat} (he : 2 ^ l.length ≤ e + j + 1) : ∀ i, j + i ≤ 2 ^ l.length - 1 → lateTo t l (j + i) e = lateTo t l j e
  | 0, _ => rfl
  | i + 1, h => by
    rw [← lateTo_keep t l he i (by omega)]
    show lateTo t l (j + i + 1) e = _
    conv => lhs; unfold lateTo
    exact foldL_other (by omega) _ _
theorem late_whole (t : Int) (l : List Sale) : late t l (2 ^ l.length - 1) = 101 := by
  have := lateTo_keep t l (e := 2 ^ l.length - 1) (j := 0) (by omega) (2 ^ l.length - 1) (by omega)
  rw [Nat.zero_add] at this
  unfold late
  rw [this]
  simp [lateTo, upd]
theorem lateTo_start (t : Int) (l : List Sale) {e : Nat} : ∀ j, e + j + 1 < 2 ^ l.length → lateTo t l j e = -1
  | 0, h => by
    simp [lateTo, upd]
    omega
  | j + 1, h => by
    conv => lhs; unfold lateTo
    rw [foldL_other (by omega)]
    exact lateTo_start t l j (by omega)
theorem late_spec (t : Int) (l : List Sale) {d : Nat} (hd : d < 2 ^ l.length - 1) :
    (∀ k, nextB t l d k = true → (saleOf l k).lo ≤ lastOf l (late t l) d k → lastOf l (late t l) d k ≤ late t l d) ∧
    (late t l d = -1 ∨ ∃ k, nextB t l d k = true ∧ (saleOf l k).lo ≤ lastOf l (late t l) d k ∧ late t l d = lastOf l (late t l) d k) := by
  have e0 : 2 ^ l.length - 2 - (2 ^ l.length - 2 - d) = d := by omega
  have hl : late t l d = ((nextL t l d).foldl (stepL l d) (lateTo t l (2 ^ l.length - 2 - d))) d := by
    have := lateTo_keep t l (e := d) (j := 2 ^ l.length - 2 - d + 1) (by omega) d (by omega)
    unfold late
    rw [show 2 ^ l.length - 2 - d + 1 + d = 2 ^ l.length - 1 by omega] at this
    rw [this]
    conv => lhs; unfold lateTo
    rw [e0]
  have hsame : ∀ k, d.testBit k = false → lastOf l (lateTo t l (2 ^ l.length - 2 - d)) d k = lastOf l (late t l) d k := fun k hk => by
    unfold lastOf
    have hgt := or_gt hk
    have := lateTo_keep t l (e := d ||| 2 ^ k) (j := 2 ^ l.length - 2 - d) (by omega) (d + 1) (by omega)
    rw [← this]
    unfold late
    rw [show 2 ^ l.length - 2 - d + (d + 1) = 2 ^ l.length - 1 by omega]
  have h0 : lateTo t l (2 ^ l.length - 2 - d) d = -1 := lateTo_start t l _ (by omega)
  obtain ⟨h1, h2, h3⟩ := foldL_spec (l := l) (d := d) (nextL t l d) (next_bits t l d) (lateTo t l (2 ^ l.length - 2 - d))
  rw [← hl] at h1 h2 h3
  refine ⟨fun k hk hle => ?_, ?_⟩
  · obtain ⟨hn, hb, _⟩ := nextB_facts hk
    have := h1 k (List.mem_filter.2 ⟨List.mem_range.2 hn, hk⟩)
    rw [hsame k hb] at this
    exact this hle
  · rcases h3 with h3 | ⟨k, hk, h3, h4⟩
    · exact .inl (h3.trans h0)
    · have hk' := (List.mem_filter.1 hk).2
      rw [hsame k (nextB_facts hk').2.1] at h3 h4
      exact .inr ⟨k, hk', h3, h4⟩
/-- A run to the end begins no later than the table says. -/
theorem go_late {o t : Int} {l : List Sale} (hv : Valid o t l) : ∀ {ps : List (Nat × Int)} {d : Nat} {x : Int}, d < 2 ^ l.length → Fresh l d ps → dset d ps = 2 ^ l.length - 1 → GoP l (stocksOf t l d) x ps → x ≤ 101 → x ≤ late t l d
  | [], d, x, _, _, h, _, h2 => by
    have : d = 2 ^ l.length - 1 := h
    rw [this, late_whole]
    exact h2
  | p :: ps, d, x, hd, ⟨f1, f2, f3⟩, h, ⟨g1, g2, g3, g4, g5⟩, h2 => by
    have hf := saleOf_valid hv f1
    rw [← stocksOf_or f2 f1] at g5
    have hlt := Nat.or_lt_two_pow hd (Nat.pow_lt_pow_right (by omega : 1 < 2) f1)
    have ih := go_late hv hlt f3 h g5 (by omega)
    have hgt := or_gt f2
    have := (late_spec t l (d := d) (by omega)).1 p.1 (by unfold nextB; simp [f1, f2, g1]) (by unfold lastOf; omega)
    unfold lastOf at this
    omega
/-- The last day from a set is reached. -/
theorem late_go {o t : Int} {l : List Sale} (hv : Valid o t l) : ∀ (f d : Nat) (x : Int), d + f = 2 ^ l.length - 1 → 0 ≤ x → x ≤ late t l d → ∃ ps, Fresh l d ps ∧ dset d ps = 2 ^ l.length - 1 ∧ GoP l (stocksOf t l d) x ps
  | 0, d, x, h, _, _ => ⟨[], trivial, h, trivial⟩
  | f + 1, d, x, h, h0, hx => by
    have := Nat.two_pow_pos l.length
    rcases (late_spec t l (d := d) (by omega)).2 with h1 | ⟨k, hk, h1, h2⟩
    · omega
    · obtain ⟨hn, hb, hm⟩ := nextB_facts hk
      have hgt := or_gt hb
      have hlt := Nat.or_lt_two_pow (show d < 2 ^ l.length by omega) (Nat.pow_lt_pow_right (by omega : 1 < 2) hn)
      unfold lastOf at h1 h2
      obtain ⟨ps, a, b, c⟩ := late_go hv (2 ^ l.length - 1 - (d ||| 2 ^ k)) (d ||| 2 ^ k) (late t l d) (by omega) (by omega) (by omega)
      rw [stocksOf_or hb hn] at c
      exact ⟨(k, late t l d) :: ps, ⟨hn, hb, a⟩, b, ⟨hm, by show (saleOf l k).lo ≤ late t l d; omega, by show late t l d ≤ (saleOf l k).hi; omega, hx, c⟩⟩
  termination_by f => f
  decreasing_by omega
end Go.Proofs.Ytfcnombmphophaa
namespace Go.Proofs.Ytfcnombmphophaa
open Go.RowKit Go.Shelf
/-- A truth: all sales, each on a day. -/
structure TruP (t : Int) (l : List Sale) (ps : List (Nat × Int)) : Prop where
  fresh : Fresh l 0 ps
  all : dset 0 ps = 2 ^ l.length - 1
  go : GoP l (stocksOf t l 0) 0 ps
theorem early_zero (t : Int) (l : List Sale) : early t l 0 = 0 := by
  rw [early_at t l (Nat.two_pow_pos _)]
  simp [earlyTo, upd]
theorem fits_tru {o t : Int} {l : List Sale} (hv : Valid o t l) : fitsB t l = true ↔ ∃ ps, TruP t l ps := by
  constructor
  · intro h
    unfold fitsB at h
    obtain ⟨ps, a, b, c, _⟩ := early_go hv (d := 2 ^ l.length - 1) (by simpa using h)
    exact ⟨ps, a, b, c⟩
  · rintro ⟨ps, a, b, c⟩
    have := go_early hv (Nat.two_pow_pos _) a c (by rw [early_zero]; omega) (by omega)
    rw [b] at this
    unfold fitsB
    simp
    omega
theorem spanIs_facts {t : Int} {l : List Sale} {d k : Nat} (h : spanIs t l d k = true) : d.testBit k = false ∧ early t l d ≠ 101 ∧ (saleOf l k).many ≤ stocksOf t l d (saleOf l k).src.toNat ∧
    spanR t l d k = (max (early t l d) (saleOf l k).lo, min (late t l (d ||| 2 ^ k)) (saleOf l k).hi) ∧ (spanR t l d k).1 ≤ (spanR t l d k).2 := by
  unfold spanIs at h
  rw [Bool.and_eq_true, decide_eq_true_eq] at h
  obtain ⟨h1, h2⟩ := h
  have h3 : spanR t l d k = (max (early t l d) (saleOf l k).lo, min (late t l (d ||| 2 ^ k)) (saleOf l k).hi) := by
    unfold spanR
    rw [if_pos h1]
  unfold spanB at h1
  simp at h1
  exact ⟨h1.1, h1.2.1, h1.2.2, h3, h2⟩
theorem span_tru {o t : Int} {l : List Sale} (hv : Valid o t l) {d k : Nat} {y : Int} (hd : d < 2 ^ l.length) (hk : k < l.length) (h : spanIs t l d k = true) (h1 : (spanR t l d k).1 ≤ y) (h2 : y ≤ (spanR t l d k).2) : ∃ ps, TruP t l ps ∧ (k, y) ∈ ps := by
  obtain ⟨hb, he, hm, hr, _⟩ := spanIs_facts h
  rw [hr] at h1 h2
  simp only at h1 h2
  have hf := saleOf_valid hv hk
  obtain ⟨ps, a, b, c, e⟩ := early_go hv he
  have hlt := Nat.or_lt_two_pow hd (Nat.pow_lt_pow_right (by omega : 1 < 2) hk)
  obtain ⟨qs, a2, b2, c2⟩ := late_go hv (2 ^ l.length - 1 - (d ||| 2 ^ k)) (d ||| 2 ^ k) y (by omega) (by omega) (by omega)
  refine ⟨ps ++ (k, y) :: qs, ⟨Fresh.app.2 ⟨a, by rw [b]; exact ⟨hk, hb, a2⟩⟩, by rw [dset_app, b, dset_cons]; exact b2, (GoP.app a).2 ⟨c, ?_⟩⟩, by simp⟩
  rw [b, e]
  refine ⟨hm, ?_, ?_, ?_, ?_⟩
  · show (saleOf l k).lo ≤ y
    omega
  · show y ≤ (saleOf l k).hi
    omega
  · show early t l d ≤ y
    omega
  · rw [← stocksOf_or hb hk]
    exact c2
theorem tru_span {o t : Int} {l : List Sale} (hv : Valid o t l) {ps : List (Nat × Int)} (h : TruP t l ps) {k : Nat} {y : Int} (hm : (k, y) ∈ ps) : k < l.length ∧ ∃ d, d < 2 ^ l.length ∧ spanIs t l d k = true ∧ (spanR t l d k).1 ≤ y ∧ y ≤ (spanR t l d k).2 := by
  obtain ⟨p1, p2, rfl⟩ := List.append_of_mem hm
  obtain ⟨f1, hk, hb, f3⟩ := Fresh.app.1 h.fresh
  obtain ⟨g1, gm, glo, ghi, gx, g3⟩ := (GoP.app f1).1 h.go
  have hall := h.all
  rw [dset_app, dset_cons] at hall
  simp only at hk hb f3 gm glo ghi gx g3 hall
  have hd := Fresh.lt (Nat.two_pow_pos _) f1
  obtain ⟨e1, e2⟩ := go_early hv (Nat.two_pow_pos _) f1 g1 (by rw [early_zero]; omega) (by omega)
  have hlt := Nat.or_lt_two_pow hd (Nat.pow_lt_pow_right (by omega : 1 < 2) hk)
  have hf := saleOf_valid hv hk
  rw [← stocksOf_or hb hk] at g3
  have hl := go_late hv hlt f3 hall g3 (by omega)
  have hsb : spanB t l (dset 0 p1) k = true := by
    unfold spanB
    simp [hb, gm]
    omega
  have hr : spanR t l (dset 0 p1) k = (max (early t l (dset 0 p1)) (saleOf l k).lo, min (late t l (dset 0 p1 ||| 2 ^ k)) (saleOf l k).hi) := by
    unfold spanR
    rw [if_pos hsb]
  refine ⟨hk, dset 0 p1, hd, ?_, ?_, ?_⟩
  · unfold spanIs
    rw [hsb, hr]
    simp
    omega
  · rw [hr]
    show max _ _ ≤ y
    omega
  · rw [hr]
    show y ≤ min _ _
    omega
/-- A range of all that is right among the first. -/
theorem range_spec {f : Nat → Int × Int} {is : Nat → Bool} {r : Nat → Int × Int} (hstep : ∀ d, f (d + 1) = if is d = true then (min (f d).1 (r d).1, max (f d).2 (r d).2) else f d) {M : Nat} (h0 : ∀ d, d < M → is d = true → (r d).1 ≤ (f 0).1 ∧ (f 0).2 ≤ (r d).2) :
    ∀ N, N ≤ M → (∀ d, d < N → is d = true → (f N).1 ≤ (r d).1 ∧ (r d).2 ≤ (f N).2) ∧
      ((f N = f 0 ∧ ∀ d, d < N → is d = false) ∨ ((∃ d, d < N ∧ is d = true ∧ (f N).1 = (r d).1) ∧ ∃ d, d < N ∧ is d = true ∧ (f N).2 = (r d).2))
  | 0, _ => ⟨fun d h => by omega, .inl ⟨rfl, fun d h => by omega⟩⟩
  | N + 1, hN => by
    obtain ⟨h1, h2⟩ := range_spec hstep h0 N (by omega)
    rw [hstep N]
    by_cases hi : is N = true
    · rw [if_pos hi]
      have hb := h0 N (by omega) hi
      refine ⟨fun d hd hd2 => ?_, .inr ?_⟩
      · by_cases e : d = N
        · subst e
          exact ⟨by show min _ _ ≤ _; omega, by show _ ≤ max _ _; omega⟩
        · have := h1 d (by omega) hd2
          exact ⟨by show min _ _ ≤ _; omega, by show _ ≤ max _ _; omega⟩
      · have hself : N < N + 1 := by omega
        rcases h2 with ⟨h2, _⟩ | ⟨⟨d, a, b, c⟩, d', a', b', c'⟩
        · rw [h2]
          exact ⟨⟨N, hself, hi, by show min _ _ = _; omega⟩, N, hself, hi, by show max _ _ = _; omega⟩
        · constructor
          · by_cases hm : (f N).1 ≤ (r N).1
            · exact ⟨d, by omega, b, by show min _ _ = _; omega⟩
            · exact ⟨N, hself, hi, by show min _ _ = _; omega⟩
          · by_cases hm : (r N).2 ≤ (f N).2
            · exact ⟨d', by omega, b', by show max _ _ = _; omega⟩
            · exact ⟨N, hself, hi, by show max _ _ = _; omega⟩
    · rw [if_neg hi]
      refine ⟨fun d hd hd2 => ?_, ?_⟩
      · by_cases e : d = N
        · rw [e] at hd2
          exact absurd hd2 hi
        · exact h1 d (by omega) hd2
      rcases h2 with ⟨a, b⟩ | ⟨⟨d, a, b, c⟩, d', a', b', c'⟩
      · refine .inl ⟨a, fun d hd => ?_⟩
        by_cases e : d = N
        · rw [e]; simpa using hi
        · exact b d (by omega)
      · exact .inr ⟨⟨d, by omega, b, c⟩, d', by omega, b', c'⟩
/-- What When says. -/
theorem when_sem {o t : Int} {l : List Sale} (hv : Valid o t l) (hf : fitsB t l = true) {k : Nat} (hk : k < l.length) :
    (∀ ps y, TruP t l ps → (k, y) ∈ ps → (whenR t l k).1 ≤ y ∧ y ≤ (whenR t l k).2) ∧ (∃ ps, TruP t l ps ∧ (k, (whenR t l k).1) ∈ ps) ∧ ∃ ps, TruP t l ps ∧ (k, (whenR t l k).2) ∈ ps := by
  have hfk := saleOf_valid hv hk
  obtain ⟨h1, h2⟩ := range_spec (f := whenTo t l k) (is := fun d => spanIs t l d k) (r := fun d => spanR t l d k) (fun d => rfl) (M := 2 ^ l.length) (fun d _ h => by
    obtain ⟨_, _, _, hr, hle⟩ := spanIs_facts h
    rw [hr] at hle ⊢
    simp only at hle
    exact ⟨by show max _ _ ≤ (101 : Int); omega, by show (-1 : Int) ≤ min _ _; omega⟩) (2 ^ l.length) (Nat.le_refl _)
  have hx : ∀ ps y, TruP t l ps → (k, y) ∈ ps → (whenR t l k).1 ≤ y ∧ y ≤ (whenR t l k).2 := fun ps y hp hm => by
    obtain ⟨_, d, a, b, c, e⟩ := tru_span hv hp hm
    have := h1 d a b
    unfold whenR
    omega
  refine ⟨hx, ?_⟩
  rcases h2 with ⟨_, h2⟩ | ⟨⟨d, a, b, c⟩, d', a', b', c'⟩
  · exfalso
    obtain ⟨ps, hp⟩ := (fits_tru hv).1 hf
    have : ∃ y, (k, y) ∈ ps := by
      have hbit : (dset 0 ps).testBit k = true := by
        rw [hp.all, Nat.testBit_two_pow_sub_one]
        simpa using hk
      have key : ∀ (qs : List (Nat × Int)) (d : Nat), (dset d qs).testBit k = true → d.testBit k = true ∨ ∃ y, (k, y) ∈ qs := by
        intro qs
        induction qs with
        | nil => intro d h; exact .inl h
        | cons q qs ih =>
          intro d h
          rcases ih _ h with h | ⟨y, h⟩
          · by_cases e : q.1 = k
            · exact .inr ⟨q.2, by rw [← e]; exact List.mem_cons_self⟩
            · rw [Nat.testBit_or, Nat.testBit_two_pow_of_ne e] at h
              exact .inl (by simpa using h)
          · exact .inr ⟨y, List.mem_cons_of_mem _ h⟩
      exact (key ps 0 hbit).resolve_left (by simp)
    obtain ⟨y, hy⟩ := this
    obtain ⟨_, d, a, b, _⟩ := tru_span hv hp hy
    rw [h2 d a] at b
    cases b
  · have hle := (spanIs_facts b).2.2.2.2
    have hle' := (spanIs_facts b').2.2.2.2
    refine ⟨span_tru hv a hk b ?_ ?_, span_tru hv a' hk b' ?_ ?_⟩
    · unfold whenR; omega
    · unfold whenR; omega
    · unfold whenR; omega
    · unfold whenR; omega
/-! What there is stays the same, and nobody has less than nothing. -/
def sumTo (st : Nat → Int) : Nat → Int
  | 0 => 0
  | n + 1 => sumTo st n + st n
theorem sumTo_upd (st : Nat → Int) (i : Nat) (v : Int) : ∀ n, sumTo (upd st i v) n = sumTo st n + if i < n then v - st i else 0
  | 0 => by simp [sumTo]
  | n + 1 => by
    unfold sumTo
    rw [sumTo_upd st i v n]
    unfold upd
    by_cases h : n = i
    · subst h
      simp
      omega
    · rw [if_neg h]
      by_cases h2 : i < n
      · rw [if_pos h2, if_pos (by omega)]
        omega
      · rw [if_neg h2, if_neg (by omega)]
        omega
theorem sumTo_sold {st : Nat → Int} {s : Sale} {n : Nat} (h1 : s.src.toNat < n) (h2 : s.dst.toNat < n) : sumTo (sold st s) n = sumTo st n := by
  unfold sold
  rw [sumTo_upd, sumTo_upd, if_pos h1, if_pos h2]
  omega
theorem sumTo_le {st : Nat → Int} : ∀ {n : Nat}, (∀ i, i < n → 0 ≤ st i) → 0 ≤ sumTo st n ∧ ∀ i, i < n → st i ≤ sumTo st n
  | 0, _ => ⟨Int.le_refl _, fun i h => by omega⟩
  | n + 1, h => by
    obtain ⟨a, b⟩ := sumTo_le (fun i hi => h i (by omega) : ∀ i, i < n → 0 ≤ st i)
    have hn := h n (by omega)
    unfold sumTo
    refine ⟨by omega, fun i hi => ?_⟩
    by_cases e : i = n
    · subst e; omega
    · have := b i (by omega)
      omega
/-- Stocks that there can be. -/
structure Fair (o t : Int) (st : Nat → Int) : Prop where
  pos : ∀ i, 0 ≤ st i
  sum : sumTo st o.toNat = t
theorem Fair.sold {o t : Int} {st : Nat → Int} {s : Sale} (h : Fair o t st) (h1 : 0 ≤ s.src ∧ s.src < o) (h2 : 0 ≤ s.dst ∧ s.dst < o) (h3 : s.src ≠ s.dst) (hm : 0 ≤ s.many) (hle : s.many ≤ st s.src.toNat) : Fair o t (sold st s) := by
  refine ⟨fun i => ?_, by rw [sumTo_sold (by omega) (by omega), h.sum]⟩
  have a := h.pos i
  have b := h.pos s.dst.toNat
  have hne : s.dst.toNat ≠ s.src.toNat := by omega
  unfold Ytfcnombmphophaa.sold upd
  rw [if_neg hne]
  split
  · omega
  · split <;> omega
theorem Fair.le {o t : Int} {st : Nat → Int} (h : Fair o t st) {i : Nat} (hi : i < o.toNat) : st i ≤ t := by
  have := (sumTo_le fun i _ => h.pos i : 0 ≤ sumTo st o.toNat ∧ _).2 i hi
  rwa [h.sum] at this
theorem fair_begun {o t : Int} {l : List Sale} (hv : Valid o t l) : Fair o t (stocksOf t l 0) := by
  have e : stocksOf t l 0 = upd (fun _ => 0) 0 t := stocksTo_zero _
  have h1 := hv.o1
  have h2 := hv.t0
  have z : ∀ n, sumTo (fun _ => 0) n = 0 := fun n => by
    induction n with
    | zero => rfl
    | succ n ih => simp [sumTo, ih]
  rw [e]
  refine ⟨fun i => ?_, ?_⟩
  · unfold upd
    split
    · exact h2
    · exact Int.le_refl _
  rw [sumTo_upd, z, if_pos (by omega)]
  omega
end Go.Proofs.Ytfcnombmphophaa
namespace Go.Proofs.Ytfcnombmphophaa
open Go.RowKit Go.Shelf
theorem Fresh.sub {l : List Sale} (P : Nat × Int → Bool) : ∀ {ps : List (Nat × Int)} {d d' : Nat}, (∀ k, d.testBit k = false → d'.testBit k = false) → Fresh l d ps → Fresh l d' (ps.filter P)
  | [], _, _, _, _ => trivial
  | p :: ps, d, d', h, ⟨f1, f2, f3⟩ => by
    rw [List.filter_cons]
    split
    · refine ⟨f1, h _ f2, Fresh.sub P (fun k hk => ?_) f3⟩
      rw [Nat.testBit_or] at hk ⊢
      simp only [Bool.or_eq_false_iff] at hk ⊢
      exact ⟨h k hk.1, hk.2⟩
    · refine Fresh.sub P (fun k hk => ?_) f3
      rw [Nat.testBit_or] at hk
      simp only [Bool.or_eq_false_iff] at hk
      exact h k hk.1
theorem stocks_zero (t : Int) (l : List Sale) : stocksOf t l 0 = upd (fun _ => 0) 0 t := stocksTo_zero _
theorem dset_bit (k : Nat) : ∀ (ps : List (Nat × Int)) (d : Nat), (dset d ps).testBit k = (d.testBit k || decide (k ∈ ps.map (·.1)))
  | [], d => by simp
  | p :: ps, d => by
    rw [dset_cons, dset_bit k ps, Nat.testBit_or, List.map_cons]
    by_cases e : p.1 = k
    · subst e
      simp
    · rw [Nat.testBit_two_pow_of_ne e, Bool.or_false]
      have : (k == p.1) = false := by simpa using fun h : k = p.1 => e h.symm
      simp [this]
theorem fresh_iff {l : List Sale} : ∀ {ps : List (Nat × Int)} {d : Nat}, Fresh l d ps ↔ (ps.map (·.1)).Nodup ∧ ∀ k, k ∈ ps.map (·.1) → k < l.length ∧ d.testBit k = false
  | [], d => by simp [Fresh]
  | p :: ps, d => by
    unfold Fresh
    rw [fresh_iff, List.map_cons, List.nodup_cons]
    constructor
    · rintro ⟨h1, h2, h3, h4⟩
      refine ⟨⟨fun hm => ?_, h3⟩, fun k hk => ?_⟩
      · have := (h4 _ hm).2
        rw [Nat.testBit_or, Nat.testBit_two_pow_self] at this
        simp at this
      · rcases List.mem_cons.1 hk with rfl | hk
        · exact ⟨h1, h2⟩
        · have := h4 k hk
          rw [Nat.testBit_or] at this
          simp only [Bool.or_eq_false_iff] at this
          exact ⟨this.1, this.2.1⟩
    · rintro ⟨⟨h1, h2⟩, h3⟩
      refine ⟨(h3 _ List.mem_cons_self).1, (h3 _ List.mem_cons_self).2, h2, fun k hk => ?_⟩
      have := h3 k (List.mem_cons_of_mem _ hk)
      refine ⟨this.1, ?_⟩
      rw [Nat.testBit_or, this.2, Nat.testBit_two_pow_of_ne (fun e => h1 (by rw [e]; exact hk))]
      rfl
theorem tru_iff {t : Int} {l : List Sale} {ps : List (Nat × Int)} : TruP t l ps ↔ (ps.map (·.1)).Perm (List.range l.length) ∧ GoP l (upd (fun _ => 0) 0 t) 0 ps := by
  constructor
  · rintro ⟨a, b, c⟩
    rw [stocks_zero] at c
    obtain ⟨h1, h2⟩ := fresh_iff.1 a
    refine ⟨(List.perm_ext_iff_of_nodup h1 List.nodup_range).2 fun k => ?_, c⟩
    rw [List.mem_range]
    refine ⟨fun h => (h2 k h).1, fun h => ?_⟩
    have hb : (dset 0 ps).testBit k = true := by
      rw [b, Nat.testBit_two_pow_sub_one]
      simpa using h
    rw [dset_bit] at hb
    simpa using hb
  · rintro ⟨a, c⟩
    have hf : Fresh l 0 ps := fresh_iff.2 ⟨a.nodup_iff.2 List.nodup_range, fun k hk => ⟨List.mem_range.1 (a.mem_iff.1 hk), by simp⟩⟩
    refine ⟨hf, ?_, by rw [stocks_zero]; exact c⟩
    apply Nat.eq_of_testBit_eq
    intro k
    rw [dset_bit, Nat.testBit_two_pow_sub_one, Nat.zero_testBit, Bool.false_or, decide_eq_decide, a.mem_iff, List.mem_range]
/-- The sales of one batch, by a numbering of their own and with days moved, can be run as those of the other one. -/
theorem go_map {l l' : List Sale} {f : Nat × Int → Nat × Int} (hs : ∀ p : Nat × Int, (saleOf l' (f p).1).src = (saleOf l p.1).src ∧ (saleOf l' (f p).1).dst = (saleOf l p.1).dst ∧ (saleOf l' (f p).1).many = (saleOf l p.1).many) {n : Int} (hd : ∀ p, (f p).2 = p.2 + n) :
    ∀ {ps : List (Nat × Int)} {st st' : Nat → Int} {x x' : Int}, (∀ p, p ∈ ps → (saleOf l p.1).lo ≤ p.2 → p.2 ≤ (saleOf l p.1).hi → (saleOf l' (f p).1).lo ≤ p.2 + n ∧ p.2 + n ≤ (saleOf l' (f p).1).hi) → (∀ i, st i ≤ st' i) → (∀ p, p ∈ ps.head? → x ≤ p.2 → x' ≤ p.2 + n) → GoP l st x ps → GoP l' st' x' (ps.map f)
  | [], _, _, _, _, _, _, _, _ => trivial
  | p :: ps, st, st', x, x', h1, h2, h3, ⟨g1, g2, g3, g4, g5⟩ => by
    obtain ⟨e1, e2, e3⟩ := hs p
    have hb := h1 p List.mem_cons_self g2 g3
    refine ⟨?_, ?_, ?_, ?_, ?_⟩
    · have := h2 (saleOf l p.1).src.toNat
      rw [e1, e3]
      omega
    · rw [hd]; exact hb.1
    · rw [hd]; exact hb.2
    · rw [hd]
      exact h3 p (by simp) g4
    · refine go_map hs hd (fun q hq => h1 q (List.mem_cons_of_mem _ hq)) (fun i => ?_) (fun q _ hq => by rw [hd]; omega) g5
      rw [sold_delta, sold_delta]
      unfold delta
      rw [e1, e2, e3]
      have := h2 i
      omega
/-- The days that a sale has in some truth; what an owner has on an evening of some truth. -/
def DayIn (t : Int) (l : List Sale) (k : Nat) (y : Int) : Prop := ∃ ps, TruP t l ps ∧ (k, y) ∈ ps
theorem when_in {o t : Int} {l : List Sale} (hv : Valid o t l) (hf : fitsB t l = true) {k : Nat} (hk : k < l.length) : (∀ y, DayIn t l k y → (whenR t l k).1 ≤ y ∧ y ≤ (whenR t l k).2) ∧ DayIn t l k (whenR t l k).1 ∧ DayIn t l k (whenR t l k).2 := by
  obtain ⟨a, b, c⟩ := when_sem hv hf hk
  exact ⟨fun y ⟨ps, h1, h2⟩ => a ps y h1 h2, b, c⟩
end Go.Proofs.Ytfcnombmphophaa
namespace Go.Proofs.Ytfcnombmphophaa
open Go.RowKit Go.Shelf
theorem tru_mem {t : Int} {l : List Sale} {ps : List (Nat × Int)} (h : TruP t l ps) {p : Nat × Int} (hp : p ∈ ps) : p.1 < l.length ∧ (saleOf l p.1).lo ≤ p.2 ∧ p.2 ≤ (saleOf l p.1).hi ∧ 0 ≤ p.2 := by
  obtain ⟨h1, _⟩ := tru_iff.1 h
  have h2 := (GoP.mono h.go).2 p hp
  exact ⟨List.mem_range.1 (h1.mem_iff.1 (List.mem_map.2 ⟨p, hp, rfl⟩)), h2.2.2.1, h2.2.2.2, h2.1⟩
/-! Sooner. -/
/-! Wider. -/
/-- A batch that gives way to each truth of another one. -/
structure WiderB (t : Int) (l : List Sale) (t' : Int) (l' : List Sale) : Prop where
  len : l'.length = l.length
  tot : t ≤ t'
  at_ : ∀ k, (saleOf l' k).src = (saleOf l k).src ∧ (saleOf l' k).dst = (saleOf l k).dst ∧ (saleOf l' k).many = (saleOf l k).many ∧ (saleOf l' k).lo ≤ (saleOf l k).lo ∧ (saleOf l k).hi ≤ (saleOf l' k).hi
theorem WiderB.tru {t t' : Int} {l l' : List Sale} (h : WiderB t l t' l') {ps : List (Nat × Int)} (hp : TruP t l ps) : TruP t' l' ps := by
  obtain ⟨a, b⟩ := tru_iff.1 hp
  refine tru_iff.2 ⟨by rw [h.len]; exact a, ?_⟩
  have := go_map (l := l) (l' := l') (f := fun p => p) (n := 0) (st' := upd (fun _ => 0) 0 t') (x' := 0) (fun p => ⟨(h.at_ p.1).1, (h.at_ p.1).2.1, (h.at_ p.1).2.2.1⟩) (fun p => by simp) (fun p _ h1 h2 => by have := h.at_ p.1; omega) (fun i => by
    have := h.tot
    unfold upd
    split <;> omega) (fun p _ hx => by omega) b
  rwa [List.map_id'] at this
/-! Later. -/
def later (n : Int) (s : Sale) : Sale := ⟨s.src, s.dst, s.many, s.lo + n, s.hi + n⟩
end Go.Proofs.Ytfcnombmphophaa
namespace Go.Proofs.Ytfcnombmphophaa
open Go.RowKit Go.Shelf
theorem when_bounds {o t : Int} {l : List Sale} (hv : Valid o t l) (hf : fitsB t l = true) {k : Nat} (hk : k < l.length) : (0 ≤ (whenR t l k).1 ∧ (whenR t l k).1 ≤ 100) ∧ 0 ≤ (whenR t l k).2 ∧ (whenR t l k).2 ≤ 100 := by
  obtain ⟨_, ⟨ps, a1, a2⟩, qs, b1, b2⟩ := when_sem hv hf hk
  have h1 := tru_mem a1 a2
  have h2 := tru_mem b1 b2
  have hs := saleOf_valid hv hk
  simp only at h1 h2
  omega
theorem own_some {w : World} {B n c2 : Nat} {A2 : Option Addr} {xs : List Value} (h : w.ownsRow B 73 5 (.slice A2 n c2) n xs) (hn : 0 < n) : ∃ g, A2 = some ⟨g, 0, none⟩ := by
  rcases h.2 with ⟨e, h0⟩ | ⟨g, cap, cur, e, _⟩
  · omega
  · cases e
    exact ⟨g, rfl⟩
theorem row_days {w : World} {B g n c : Nat} {l : List Sale} (h : w.ownsRow B 73 5 (.slice (some ⟨g, 0, none⟩) n c) n (salesL l)) {k : Nat} {s : Sale} (hk : l[k]? = some s) (x y : Int) :
    (putDays w g (0 + k * 5 + 3) x y).ownsRow B 73 5 (.slice (some ⟨g, 0, none⟩) n c) n (salesL (l.set k (withDays s x y))) := by
  have h1 := row_set h (j := 3) (s' := withDays s x s.hi) (u := .int .i64 x) hk (by omega) rfl
  have hlt := (List.getElem?_eq_some_iff.1 hk).1
  have h2 := row_set h1 (k := k) (j := 4) (s := withDays s x s.hi) (s' := withDays s x y) (u := .int .i64 y) (by rw [List.getElem?_set]; simp [hlt]) (by omega) rfl
  rw [List.set_set] at h2
  unfold putDays
  rw [Nat.zero_add]
  exact h2
section
variable {o t : Int} {A A2 : Option Addr} {l l2 : List Sale} {c c2 : Nat} {n_ on ow : Int} {b3 px B i : Nat} {a1 : Act} {W W1 : World} {Q : Exit → Act → World → Prop}
end
end Go.Proofs.Ytfcnombmphophaa
namespace Go.Proofs.Ytfcnombmphophaa
open Go.RowKit Go.Shelf
theorem quo3r {x y : Operand} {m n r : Int} (h0 : 0 ≤ m) (h1 : 0 < n) (hm : m ≤ 1000000) (hr : m / n = r) (w : World) : (do eqGuard .quo 3 x y (.int .i64 m) (.int .i64 n); binOp .quo 3 (.int .i64 m) (.int .i64 n) : Sem Value).run Try.prog w = .ok (.int .i64 r) w := by
  have h2 : n ≠ 0 := by omega
  have h3 : m.tdiv n = m / n := Int.tdiv_eq_ediv_of_nonneg h0
  have h5 : 0 ≤ m / n := Int.ediv_nonneg h0 (by omega)
  have h6 : m / n ≤ m := Int.ediv_le_self _ h0
  have h4 := IntWalk.i64_in (m / n) (by omega)
  subst hr
  rw [← h3] at h4 ⊢
  go_simp
  rw [h3] at h4
  exact h4
theorem mxc (m n : Int) (ty : TypeId) (w : World) : (builtin .max #[3, 3] ty #[true, false] #[.int .i64 m, .int .i64 n]).run Try.prog w = .ok (.value (.int .i64 (max m n))) w := by
  go_simp
  split <;> omega
theorem mnc (m n : Int) (ty : TypeId) (w : World) : (builtin .min #[3, 3] ty #[true, false] #[.int .i64 m, .int .i64 n]).run Try.prog w = .ok (.value (.int .i64 (min m n))) w := by
  go_simp
  split <;> omega
section
variable {P : Program} {ops : Array Oper} {K : Act → World → Prop} {Kp : Nat → World → World → Prop} {fuel k : Nat} {listed : Array Bool} {a : Act} {w : World} {i d : Nat} {ty : TypeId} {pos : String} {aft : Array Edge} {gd : Option (Nat × Bool)} {u v x : Value} {y : Nat} {tys : Array TypeId} {bi : Builtin}
theorem AnyK.bi2 {R : World → Prop} {T : Nat → Bool} (m : May ops Kp listed R T i ⟨some d, .call { callee := .builtin bi, args := #[.const x, .tmp y], argTypes := tys }, ty, pos, aft, gd⟩)
    (hy : a.eval (.tmp y) = u) (hv : ∀ w, (builtin bi tys ty #[true, false] #[x, u]).run P w = .ok (.value v) w) (hS : R w)
    (h : AnyK P ops K Kp fuel (listed.setIfInBounds i true) (a.put (some d) v) w) (hw : Region.wanted ⟨some d, .call { callee := .builtin bi, args := #[.const x, .tmp y], argTypes := tys }, ty, pos, aft, gd⟩ (yielded ops a.tmps) = true := by rfl) : AnyK P ops K Kp (fuel + 1) listed a w :=
  AnyK.take m (.inl ⟨hw, fun w' _ => by
    have := hv w'
    simp [execOp, resolve, invoke, hy, this]⟩) hS h
theorem AnyK.conv {R : World → Prop} {T : Nat → Bool} {s t : TypeId} {z : Operand} (m : May ops Kp listed R T i ⟨some d, .convert s t z, ty, pos, aft, gd⟩)
    (hz : a.eval z = u) (hv : ∀ w, (convert s t u).run P w = .ok v w) (hS : R w)
    (h : AnyK P ops K Kp fuel (listed.setIfInBounds i true) (a.put (some d) v) w) (hw : Region.wanted ⟨some d, .convert s t z, ty, pos, aft, gd⟩ (yielded ops a.tmps) = true := by rfl) : AnyK P ops K Kp (fuel + 1) listed a w :=
  AnyK.take m (.inl ⟨hw, fun w' _ => by simp [execOp, hz, hv w']⟩) hS h
theorem ListK.bi2 (hi : ops[i]? = some ⟨some d, .call { callee := .builtin bi, args := #[.const x, .tmp y], argTypes := tys }, ty, pos, aft, gd⟩) (hy : a.eval (.tmp y) = u) (hv : (builtin bi tys ty #[true, false] #[x, u]).run P w = .ok (.value v) w)
    (h : ListK P ops K k (i + 1) (a.put (some d) v) w) (hw : Region.wanted ⟨some d, .call { callee := .builtin bi, args := #[.const x, .tmp y], argTypes := tys }, ty, pos, aft, gd⟩ (yielded ops a.tmps) = true := by rfl) : ListK P ops K (k + 1) i a w :=
  ListK.valW hi hw (by simp [execOp, resolve, invoke, hy, hv]) h
end
section
attribute [local irreducible] AnyK StepK
end
end Go.Proofs.Ytfcnombmphophaa
namespace Go.Proofs.Ytfcnombmphophaa
open Go.RowKit Go.Shelf
theorem saleOf_set {l : List Sale} {k : Nat} {s : Sale} (hk : k < l.length) (j : Nat) : saleOf (l.set k s) j = if j = k then s else saleOf l j := by
  unfold saleOf
  rw [List.getElem?_set]
  by_cases e : k = j
  · subst e
    simp [hk]
  · rw [if_neg e, if_neg (Ne.symm e)]
section
variable {o t t2 : Int} {A A2 : Option Addr} {l l2 : List Sale} {c c2 : Nat} {b3 px i : Nat} {a1 : Act} {W W1 : World} {Q : Exit → Act → World → Prop}
end
end Go.Proofs.Ytfcnombmphophaa
namespace Go.Proofs.Ytfcnombmphophaa
open Go.RowKit Go.Shelf
theorem map_range (l : List Sale) : (List.range l.length).map (saleOf l) = l := by
  apply List.ext_getElem?
  intro k
  rw [List.getElem?_map]
  by_cases h : k < l.length
  · rw [List.getElem?_range h, List.getElem?_eq_getElem h]
    simp only [Option.map_some]
    rw [saleOf_eq (List.getElem?_eq_getElem h)]
  · rw [List.getElem?_eq_none (by simpa using h), List.getElem?_eq_none (by omega)]
    rfl
end Go.Proofs.Ytfcnombmphophaa
namespace Go.Proofs.Ytfcnombmphophaa
open Go.RowKit Go.Shelf
/-- The sales that are done on the evening of a day. -/
def eveL (ds : List Int) (on : Int) : Nat → List Int
  | 0 => []
  | k + 1 => if (ds[k]?).getD 0 ≤ on then eveL ds on k ++ [(k : Int)] else eveL ds on k
theorem eveL_mem (ds : List Int) (on : Int) : ∀ k d, d ∈ eveL ds on k → 0 ≤ d ∧ d < k
  | 0, d, h => by simp [eveL] at h
  | k + 1, d, h => by
    unfold eveL at h
    split at h
    · rcases List.mem_append.1 h with h | h
      · have := eveL_mem ds on k d h
        omega
      · simp at h
        omega
    · have := eveL_mem ds on k d h
      omega
end Go.Proofs.Ytfcnombmphophaa
namespace Go.Proofs.Ytfcnombmphophaa
open Go.RowKit Go.Shelf
theorem hasI_iff {l : List Int} {n : Int} : hasI l n = true ↔ n ∈ l := by
  unfold hasI
  rw [List.any_eq_true]
  constructor
  · rintro ⟨x, hx, e⟩
    have : x = n := by simpa using e
    rw [← this]
    exact hx
  · intro h
    exact ⟨n, h, by simp⟩
theorem eve_same {o t : Int} {l : List Sale} (hv : Valid o t l) (ds : List Int) (on : Int) : ∀ k, k ≤ l.length → ∃ d, Same t l (eveL ds on k) d
  | 0, _ => ⟨0, Same.zero t l⟩
  | k + 1, hk => by
    obtain ⟨d, h⟩ := eve_same hv ds on k (by omega)
    unfold eveL
    split
    · refine ⟨d ||| 2 ^ k, h.snoc hv (by omega) ?_⟩
      rw [h.bits]
      cases hh : hasI (eveL ds on k) (k : Int) with
      | false => rfl
      | true =>
        have := eveL_mem ds on k _ (hasI_iff.1 hh)
        omega
    · exact ⟨d, h⟩
/-! Truths sale by sale. -/
def GoS : (Nat → Int) → Int → List (Sale × Int) → Prop
  | _, _, [] => True
  | st, x, p :: ps => p.1.many ≤ st p.1.src.toNat ∧ p.1.lo ≤ p.2 ∧ p.2 ≤ p.1.hi ∧ x ≤ p.2 ∧ GoS (sold st p.1) p.2 ps
def lastQ (x : Int) (ps : List (Sale × Int)) : Int := ps.foldl (fun _ p => p.2) x
theorem GoS.snoc : ∀ {ps : List (Sale × Int)} {st : Nat → Int} {x : Int} {p : Sale × Int}, GoS st x ps → p.1.many ≤ ps.foldl (fun st p => sold st p.1) st p.1.src.toNat → p.1.lo ≤ p.2 → p.2 ≤ p.1.hi → lastQ x ps ≤ p.2 → GoS st x (ps ++ [p])
  | [], _, _, _, _, h1, h2, h3, h4 => ⟨h1, h2, h3, h4, trivial⟩
  | q :: ps, st, x, p, ⟨a, b, c, d, e⟩, h1, h2, h3, h4 => ⟨a, b, c, d, GoS.snoc e h1 h2 h3 h4⟩
theorem lastQ_snoc (x : Int) (ps : List (Sale × Int)) (p : Sale × Int) : lastQ x (ps ++ [p]) = p.2 := by simp [lastQ]
theorem GoS.fair {o t : Int} : ∀ {ps : List (Sale × Int)} {st : Nat → Int} {x : Int}, GoS st x ps → (∀ p, p ∈ ps → saleOk o p.1 = true) → Fair o t st → Fair o t (ps.foldl (fun st p => sold st p.1) st)
  | [], _, _, _, _, h => h
  | p :: ps, st, x, ⟨a, b, c, d, e⟩, hok, h => by
    have hf := saleOk_facts (hok p List.mem_cons_self)
    rw [List.foldl_cons]
    exact GoS.fair (ps := ps) e (fun q hq => hok q (List.mem_cons_of_mem _ hq)) (h.sold ⟨hf.1, hf.2.1⟩ ⟨hf.2.2.1, hf.2.2.2.1⟩ hf.2.2.2.2.1 (by omega) a)
theorem fold_zip : ∀ (l : List Sale) (ds : List Int) (st : Nat → Int), ds.length = l.length → (l.zip ds).foldl (fun st p => sold st p.1) st = l.foldl sold st
  | [], _, _, _ => by simp
  | s :: l, [], _, h => by simp at h
  | s :: l, d :: ds, st, h => by
    rw [List.zip_cons_cons, List.foldl_cons, List.foldl_cons]
    exact fold_zip l ds _ (by simpa using h)
/-- The numbers of all sales. -/
def upTo : Nat → List Int
  | 0 => []
  | k + 1 => upTo k ++ [(k : Int)]
theorem upTo_length : ∀ k, (upTo k).length = k
  | 0 => rfl
  | k + 1 => by simp [upTo, upTo_length k]
theorem upTo_mem : ∀ {k : Nat} {d : Int}, d ∈ upTo k → 0 ≤ d ∧ d < k
  | 0, d, h => by simp [upTo] at h
  | k + 1, d, h => by
    rcases List.mem_append.1 h with h | h
    · have := upTo_mem h
      omega
    · simp at h
      omega
theorem stock_fold {o t : Int} {l : List Sale} (hv : Valid o t l) (i : Nat) : ∀ k, k ≤ l.length → stockR t l (upTo k) i = ((l.take k).foldl sold (upd (fun _ => 0) 0 t)) i
  | 0, _ => by
    unfold stockR upTo upd
    simp
  | k + 1, hk => by
    have hf := saleOf_valid hv (show k < l.length by omega)
    unfold upTo
    rw [stockR_app, List.take_succ_eq_append_getElem (by omega), List.foldl_append, List.foldl_cons, List.foldl_nil, ← saleOf_eq (List.getElem?_eq_getElem (show k < l.length by omega))]
    exact (sold_step (by omega) hf.1 hf.2.2.1 hf.2.2.2.2.1 (stock_fold hv i k (by omega)).symm).symm
/-- One word of Truly: the sales, their days, the day. -/
def trStep (o t : Int) (s : List Sale × List Int × Int) (w : Nat) : List Sale × List Int × Int :=
  if (w : Int) % o = (w : Int) / 8 % o ∨ stockR t s.1 (upTo s.1.length) ((w : Int) % o) = 0 then s
  else (s.1 ++ [⟨(w : Int) % o, (w : Int) / 8 % o, 1 + (w : Int) / 256 % stockR t s.1 (upTo s.1.length) ((w : Int) % o), max 0 (min 100 (s.2.2 + (w : Int) / 64 % 4) - (w : Int) / 512 % 4), min 100 (min 100 (s.2.2 + (w : Int) / 64 % 4) + (w : Int) / 2048 % 4)⟩],
    s.2.1 ++ [min 100 (s.2.2 + (w : Int) / 64 % 4)], min 100 (s.2.2 + (w : Int) / 64 % 4))
structure TrI (o t : Int) (i : Nat) (s : List Sale × List Int × Int) : Prop where
  o1 : 1 ≤ o
  o6 : o ≤ 6
  t0 : 0 ≤ t
  t1 : t ≤ 1000
  len : s.1.length ≤ i
  ok : ∀ x, x ∈ s.1 → saleOk o x = true
  days : s.2.1.length = s.1.length
  day : 0 ≤ s.2.2 ∧ s.2.2 ≤ 100
  run : GoS (upd (fun _ => 0) 0 t) 0 (s.1.zip s.2.1)
  last : lastQ 0 (s.1.zip s.2.1) ≤ s.2.2
theorem TrI.valid {o t : Int} {i : Nat} {s : List Sale × List Int × Int} (h : TrI o t i s) (hi : i ≤ 8) : Valid o t s.1 := ⟨h.o1, h.o6, h.t0, h.t1, by have := h.len; omega, h.ok⟩
theorem TrI.stock {o t : Int} {i : Nat} {s : List Sale × List Int × Int} (h : TrI o t i s) (hi : i ≤ 8) {ow : Int} (h0 : 0 ≤ ow) (h1 : ow < o) : 0 ≤ stockR t s.1 (upTo s.1.length) ow ∧ stockR t s.1 (upTo s.1.length) ow ≤ t ∧ stockR t s.1 (upTo s.1.length) ow = ((s.1.zip s.2.1).foldl (fun st p => sold st p.1) (upd (fun _ => 0) 0 t)) ow.toNat := by
  have hv := h.valid hi
  have e : stockR t s.1 (upTo s.1.length) ow = ((s.1.zip s.2.1).foldl (fun st p => sold st p.1) (upd (fun _ => 0) 0 t)) ow.toNat := by
    have := stock_fold hv ow.toNat s.1.length (Nat.le_refl _)
    rw [Int.toNat_of_nonneg h0, List.take_length] at this
    rw [this, fold_zip _ _ _ h.days]
  have hz : stocksOf t s.1 0 = upd (fun _ => 0) 0 t := stocks_zero t s.1
  have hfa := h.run.fair (o := o) (t := t) (fun p hp => h.ok _ (List.of_mem_zip hp).1) (by rw [← hz]; exact fair_begun hv)
  rw [e]
  exact ⟨hfa.pos _, hfa.le (by omega), rfl⟩
theorem trI_zero {o t : Int} (h1 : 1 ≤ o) (h2 : o ≤ 6) (h3 : 0 ≤ t) (h4 : t ≤ 1000) : TrI o t 0 ([], [], 0) :=
  ⟨h1, h2, h3, h4, Nat.le_refl _, fun x hx => by simp at hx, rfl, ⟨by decide, by decide⟩, trivial, by simp [lastQ]⟩
theorem trI_step {o t : Int} {i : Nat} {s : List Sale × List Int × Int} (h : TrI o t i s) (hi : i < 8) (w : Nat) : TrI o t (i + 1) (trStep o t s w) := by
  have ho := h.o1
  have hf0 : 0 ≤ (w : Int) % o := Int.emod_nonneg _ (by omega)
  have hf1 : (w : Int) % o < o := Int.emod_lt_of_pos _ (by omega)
  have ht0 : 0 ≤ (w : Int) / 8 % o := Int.emod_nonneg _ (by omega)
  have ht1 : (w : Int) / 8 % o < o := Int.emod_lt_of_pos _ (by omega)
  obtain ⟨s0, s1, s2⟩ := h.stock (by omega) hf0 hf1
  have hT := h.t1
  have hdy := h.day
  have hlast := h.last
  have hdl := h.days
  unfold trStep
  split
  · exact ⟨h.o1, h.o6, h.t0, h.t1, by have := h.len; omega, h.ok, h.days, h.day, h.run, h.last⟩
  · rename_i hne
    generalize hfr : (w : Int) % o = fr at *
    generalize hto : (w : Int) / 8 % o = to at *
    generalize hst : stockR t s.1 (upTo s.1.length) fr = st at *
    have hn1 : fr ≠ to ∧ st ≠ 0 := ⟨fun e => hne (.inl e), fun e => hne (.inr e)⟩
    have hq0 : 0 ≤ (w : Int) / 256 % st := Int.emod_nonneg _ (by omega)
    have hq1 : (w : Int) / 256 % st < st := Int.emod_lt_of_pos _ (by omega)
    generalize (w : Int) / 256 % st = qm at *
    obtain ⟨d1, hd1⟩ : ∃ d, (w : Int) / 64 % 4 = d := ⟨_, rfl⟩
    obtain ⟨d2, hd2⟩ : ∃ d, (w : Int) / 512 % 4 = d := ⟨_, rfl⟩
    obtain ⟨d3, hd3⟩ : ∃ d, (w : Int) / 2048 % 4 = d := ⟨_, rfl⟩
    have g1 : 0 ≤ d1 := by omega
    have g2 : 0 ≤ d2 := by omega
    have g3 : 0 ≤ d3 := by omega
    rw [hd1, hd2, hd3]
    obtain ⟨dy, hdy'⟩ : ∃ d, min 100 (s.2.2 + d1) = d := ⟨_, rfl⟩
    rw [hdy']
    have hz : (s.1 ++ [(⟨fr, to, 1 + qm, max 0 (dy - d2), min 100 (dy + d3)⟩ : Sale)]).zip (s.2.1 ++ [dy]) = s.1.zip s.2.1 ++ [(⟨fr, to, 1 + qm, max 0 (dy - d2), min 100 (dy + d3)⟩, dy)] := by
      rw [List.zip_append hdl.symm]
      rfl
    refine ⟨h.o1, h.o6, h.t0, h.t1, ?_, ?_, ?_, ?_, ?_, ?_⟩
    · have := h.len
      simp
      omega
    · intro x hx
      rcases List.mem_append.1 hx with hx | hx
      · exact h.ok x hx
      · simp at hx
        subst hx
        simp [saleOk, inR]
        omega
    · simp [hdl]
    · show 0 ≤ dy ∧ dy ≤ 100
      omega
    · show GoS _ _ (List.zip _ _)
      rw [hz]
      refine h.run.snoc ?_ ?_ ?_ ?_
      · show 1 + qm ≤ _
        rw [← s2]
        omega
      · show max 0 (dy - d2) ≤ dy
        omega
      · show dy ≤ min 100 (dy + d3)
        omega
      · show lastQ _ _ ≤ dy
        omega
    · show lastQ 0 (List.zip _ _) ≤ dy
      rw [hz, lastQ_snoc]
      exact Int.le_refl _
/-- All words; at most eight count. -/
def truly (o t : Int) (ws : List Nat) (i : Nat) : List Sale × List Int × Int := (ws.take i).foldl (trStep o t) ([], [], 0)
theorem truly_step {o t : Int} {ws : List Nat} {i : Nat} (h : i < ws.length) : truly o t ws (i + 1) = trStep o t (truly o t ws i) ws[i] := by
  unfold truly
  rw [List.take_succ_eq_append_getElem h, List.foldl_append]
  rfl
theorem truly_inv {o t : Int} (h1 : 1 ≤ o) (h2 : o ≤ 6) (h3 : 0 ≤ t) (h4 : t ≤ 1000) (ws : List Nat) : ∀ i, i ≤ 8 → i ≤ ws.length → TrI o t i (truly o t ws i)
  | 0, _, _ => trI_zero h1 h2 h3 h4
  | i + 1, h, hw => by
    rw [truly_step (by omega)]
    exact trI_step (truly_inv h1 h2 h3 h4 ws i (by omega) (by omega)) (by omega) _
/-- The days of all sales as a truth. -/
def dayPs (l : List Sale) (ds : List Int) : List (Nat × Int) := (List.range l.length).zip ds
theorem go_goS {l : List Sale} : ∀ {ps : List (Nat × Int)} {st : Nat → Int} {x : Int}, GoP l st x ps ↔ GoS st x (ps.map fun p => (saleOf l p.1, p.2))
  | [], _, _ => Iff.rfl
  | p :: ps, st, x => by
    unfold GoP
    rw [List.map_cons]
    unfold GoS
    rw [go_goS (ps := ps)]
theorem tri_tru {o t : Int} {i : Nat} {s : List Sale × List Int × Int} (h : TrI o t i s) : TruP t s.1 (dayPs s.1 s.2.1) := by
  refine tru_iff.2 ⟨?_, go_goS.2 ?_⟩
  · have : (dayPs s.1 s.2.1).map (·.1) = List.range s.1.length := by
      unfold dayPs
      exact List.map_fst_zip (by simp [h.days])
    rw [this]
  · have : (dayPs s.1 s.2.1).map (fun p => (saleOf s.1 p.1, p.2)) = s.1.zip s.2.1 := by
      unfold dayPs
      have h2 := List.zip_map_left (f := saleOf s.1) (l₁ := List.range s.1.length) (l₂ := s.2.1)
      rw [map_range] at h2
      rw [h2]
      rfl
    rw [this]
    exact h.run
end Go.Proofs.Ytfcnombmphophaa
namespace Go.Proofs.Ytfcnombmphophaa
open Go.RowKit Go.Shelf
end Go.Proofs.Ytfcnombmphophaa
namespace Go.Proofs.Ytfcnombmphophaa
open Go.RowKit Go.Shelf
end Go.Proofs.Ytfcnombmphophaa
namespace Go.Proofs.Ytfcnombmphophaa
open Go.RowKit Go.Shelf
end Go.Proofs.Ytfcnombmphophaa
namespace Go.Proofs.Ytfcnombmphophaa
open Go.RowKit Go.Shelf
/-! The fewest sales. -/
end Go.Proofs.Ytfcnombmphophaa
namespace Go.Proofs.Ytfcnombmphophaa
open Go.RowKit Go.Shelf Go.ChangeShapes Go.WideShapes
section
variable {H : Type} {enc : TypeId × Value → H} {W : World} {r : Reach} {b0 : Nat}
theorem c3 : Try.prog.cellsOf 3 = 1 := by kernel_rfl
theorem five {cs : List Value} {a b c d e : Value} (hl : cs.length = 5) (h0 : cs[0]? = some a) (h1 : cs[1]? = some b) (h2 : cs[2]? = some c) (h3 : cs[3]? = some d) (h4 : cs[4]? = some e) : cs = [a, b, c, d, e] := by
  match cs, hl with
  | [_, _, _, _, _], _ =>
    simp at h0 h1 h2 h3 h4
    subst h0 h1 h2 h3 h4
    rfl
end
/-- A READING IS CARRIED OVER WHATEVER LIES BEHIND. -/
theorem laidOut : laidOutB Try.prog = true := by kernel_rfl
end Go.Proofs.Ytfcnombmphophaa
namespace Go.Proofs.Ytfcnombmphophaa
open Go.RowKit Go.Shelf Go.ChangeShapes Go.WideShapes
section
variable {P : Program} {ops : Array Oper} {K : Act → World → Prop} {Kp : Nat → World → World → Prop} {fuel k : Nat} {listed : Array Bool} {a : Act} {w w' : World} {i d : Nat} {ty : TypeId} {pos : String} {aft : Array Edge} {gd : Option (Nat × Bool)} {u u' v v2 v' : Value} {t : TypeId} {x y : Operand}
theorem AnyK.sliceH {R : World → Prop} {T : Nat → Bool} (m : May ops Kp listed R T i ⟨some d, .slice t x none (some y) none, ty, pos, aft, gd⟩)
    (hx : a.eval x = u) (hy : a.eval y = u') (hv : ∀ w, (Instr.sliceAt t u none (some u') none).run P w = .ok v w) (hS : R w)
    (h : AnyK P ops K Kp fuel (listed.setIfInBounds i true) (a.put (some d) v) w) (hw : Region.wanted ⟨some d, .slice t x none (some y) none, ty, pos, aft, gd⟩ (yielded ops a.tmps) = true := by rfl) : AnyK P ops K Kp (fuel + 1) listed a w :=
  AnyK.take m (.inl ⟨hw, fun w' _ => by simp [execOp, hx, hy, hv w']⟩) hS h
theorem StepK.app22r {ops : Array Oper} {s z : Operand} (hi : ops[i]? = some ⟨some d, .call { callee := .builtin .append, args := #[s, z], argTypes := #[22, 22] }, ty, pos, aft, none⟩) (hs : a.eval s = v) (hx : a.eval z = v2)
    (hr : (Builtin.append_ #[22, 22] ty #[v, v2]).run Try.prog w = .ok v' w') (hk : Kp i w w') (h : AnyK Try.prog ops K Kp fuel (listed.setIfInBounds i true) (a.put (some d) v') w') : StepK Try.prog ops K Kp fuel listed a w i := by
  unfold StepK opG
  simp only [hi]
  rw [if_pos (show Region.wanted _ _ = true from rfl)]
  simp [Oper.wp, execOp, resolve, invoke, builtin, hs, hx, hr, Oper.upon]
  exact ⟨hk, h⟩
end
section
attribute [local irreducible] AnyK StepK
end
end Go.Proofs.Ytfcnombmphophaa
namespace Go.Proofs.Ytfcnombmphophaa
open Go.RowKit Go.Shelf
/-- A slice of words. -/
def WordsAt (w : World) (B : Nat) (A : Option Addr) (l : List Nat) : Prop := ∀ (k x : Nat), l[k]? = some x → x < 65536 ∧ ∃ b off, A = some ⟨b, off, none⟩ ∧ b < B ∧ w.cell? ⟨b, off + k, none⟩ = some (.int .u16 x)
set_option maxRecDepth 100000 in
theorem cv63 {k : Nat} (hk : k < 65536) (w : World) : (convert 63 3 (.int .u16 k)).run Try.prog w = .ok (.int .i64 k) w := by
  have h1 : IntKind.i64.wrap (k : Int) = k := by
    rw [IntKind.wrap_i64]
    omega
  go_simp
theorem ld63 {w : World} {p : Addr} {v : Value} (h : w.cell? p = some v) : (Instr.loadAt 63 (.pointer (some p))).run Try.prog w = .ok v w := by
  go_simp
theorem ix64 {b o n c : Nat} {i : Nat} (h : i < n) (w : World) : (Instr.indexAt 64 (.slice (some ⟨b, o, none⟩) n c) (.int .i64 i)).run Try.prog w = .ok (.pointer (some ⟨b, o + i, none⟩)) w := by
  go_simp
theorem ln64 (A : Option Addr) (n c : Nat) (ty : TypeId) (w : World) : (builtin .len #[64] ty #[false] #[.slice A n c]).run Try.prog w = .ok (.value (.int .i64 n)) w := by
  go_simp
theorem bd73 (a b m : Int) (x y : Int) (w : World) : (Instr.build 73 #[(0, .int .i64 a), (1, .int .i64 b), (2, .int .i64 m), (3, .agg #[.int .i64 x, .int .i64 y])]).run Try.prog w = .ok (.agg #[.int .i64 a, .int .i64 b, .int .i64 m, .int .i64 x, .int .i64 y]) w := by
  go_simp
theorem sale_new {w : World} {p : Nat} {s : Sale} (h : Whole w p 73 (saleC s)) : SalesAt w w.heap.size (some ⟨p, 0, none⟩) [s] := by
  intro k x hx
  cases k with
  | zero =>
    simp at hx
    subst hx
    exact ⟨p, 0, rfl, h.lt, h.cell 0, h.cell 1, h.cell 2, h.cell 3, h.cell 4⟩
  | succ k => simp at hx
theorem own_same {w w' : World} {B e sz n : Nat} {v : Value} {xs : List Value} (h : w.ownsRow B e sz v n xs) (hk : ∀ g, v.ownBlock = some g → w'.heap[g]? = w.heap[g]?) : w'.ownsRow B e sz v n xs := by
  refine ⟨h.1, ?_⟩
  rcases h.2 with hn | ⟨g, cap, cur, rfl, hb, hg, rest⟩
  · exact .inl hn
  · exact .inr ⟨g, cap, cur, rfl, hb, (hk g rfl).trans hg, rest⟩
noncomputable def opsTr8 : Array Oper := (Try.f39.body.bind (regionOf 8)).getD #[]
def wordsTr8 (wd : Nat) (o fr q8 to : Int) : Words := [fun v _ => v = .int .i64 wd, fun v _ => v = .int .i64 o, fun v _ => v = .int .i64 fr, fun v _ => v = .int .i64 wd, fun v _ => v = .int .i64 q8, fun v _ => v = .int .i64 o, fun v _ => v = .int .i64 to, fun v _ => v = .int .i64 fr, fun v _ => v = .int .i64 to]
theorem okTr8_0 {wd : Nat} {o fr q8 to : Int} {a : Act} {w : World} (t0 : a.eval (.tmp 0) = .int .i64 o) (t13 : a.eval (.tmp 13) = .int .i64 wd) (hwd : wd < 65536) (ho : 0 < o) (hfr : (↑wd : Int) % o = fr) (hq8 : (↑wd : Int) / 8 = q8) (hto : q8 % o = to) : OpOk Try.prog opsTr8 (wordsTr8 wd o fr q8 to) 109 a w 0 := by
  refine OpOk.gen rfl (fun a1 w1 H => ?_)
  have e13 : a1.eval (.tmp 13) = .int .i64 wd := (H.out 13 (by kernel_rfl)).trans t13
  refine gd_none ?_
  exact OpW.move e13 rfl
theorem okTr8_1 {wd : Nat} {o fr q8 to : Int} {a : Act} {w : World} (t0 : a.eval (.tmp 0) = .int .i64 o) (t13 : a.eval (.tmp 13) = .int .i64 wd) (hwd : wd < 65536) (ho : 0 < o) (hfr : (↑wd : Int) % o = fr) (hq8 : (↑wd : Int) / 8 = q8) (hto : q8 % o = to) : OpOk Try.prog opsTr8 (wordsTr8 wd o fr q8 to) 109 a w 1 := by
  refine OpOk.gen rfl (fun a1 w1 H => ?_)
  have e0 : a1.eval (.tmp 0) = .int .i64 o := (H.out 0 (by kernel_rfl)).trans t0
  refine gd_none ?_
  exact OpW.move e0 rfl
theorem okTr8_2 {wd : Nat} {o fr q8 to : Int} {a : Act} {w : World} (t0 : a.eval (.tmp 0) = .int .i64 o) (t13 : a.eval (.tmp 13) = .int .i64 wd) (hwd : wd < 65536) (ho : 0 < o) (hfr : (↑wd : Int) % o = fr) (hq8 : (↑wd : Int) / 8 = q8) (hto : q8 % o = to) : OpOk Try.prog opsTr8 (wordsTr8 wd o fr q8 to) 109 a w 2 := by
  refine OpOk.gen rfl (fun a1 w1 H => ?_)
  have d0 : a1.eval (.tmp 37) = .int .i64 wd := H.dep 0 37 rfl (by kernel_rfl)
  have d1 : a1.eval (.tmp 38) = .int .i64 o := H.dep 1 38 rfl (by kernel_rfl)
  refine gd_none ?_
  exact OpW.bin d0 d1 (rem3r (by omega) ho hfr _) rfl
theorem okTr8_3 {wd : Nat} {o fr q8 to : Int} {a : Act} {w : World} (t0 : a.eval (.tmp 0) = .int .i64 o) (t13 : a.eval (.tmp 13) = .int .i64 wd) (hwd : wd < 65536) (ho : 0 < o) (hfr : (↑wd : Int) % o = fr) (hq8 : (↑wd : Int) / 8 = q8) (hto : q8 % o = to) : OpOk Try.prog opsTr8 (wordsTr8 wd o fr q8 to) 109 a w 3 := by
  refine OpOk.gen rfl (fun a1 w1 H => ?_)
  have e13 : a1.eval (.tmp 13) = .int .i64 wd := (H.out 13 (by kernel_rfl)).trans t13
  refine gd_none ?_
  exact OpW.move e13 rfl
theorem okTr8_4 {wd : Nat} {o fr q8 to : Int} {a : Act} {w : World} (t0 : a.eval (.tmp 0) = .int .i64 o) (t13 : a.eval (.tmp 13) = .int .i64 wd) (hwd : wd < 65536) (ho : 0 < o) (hfr : (↑wd : Int) % o = fr) (hq8 : (↑wd : Int) / 8 = q8) (hto : q8 % o = to) : OpOk Try.prog opsTr8 (wordsTr8 wd o fr q8 to) 109 a w 4 := by
  refine OpOk.gen rfl (fun a1 w1 H => ?_)
  have d3 : a1.eval (.tmp 40) = .int .i64 wd := H.dep 3 40 rfl (by kernel_rfl)
  refine gd_none ?_
  exact OpW.bin d3 rfl (quo3r (by omega) (by omega) (by omega) hq8 _) rfl
theorem okTr8_5 {wd : Nat} {o fr q8 to : Int} {a : Act} {w : World} (t0 : a.eval (.tmp 0) = .int .i64 o) (t13 : a.eval (.tmp 13) = .int .i64 wd) (hwd : wd < 65536) (ho : 0 < o) (hfr : (↑wd : Int) % o = fr) (hq8 : (↑wd : Int) / 8 = q8) (hto : q8 % o = to) : OpOk Try.prog opsTr8 (wordsTr8 wd o fr q8 to) 109 a w 5 := by
  refine OpOk.gen rfl (fun a1 w1 H => ?_)
  have e0 : a1.eval (.tmp 0) = .int .i64 o := (H.out 0 (by kernel_rfl)).trans t0
  refine gd_none ?_
  exact OpW.move e0 rfl
theorem okTr8_6 {wd : Nat} {o fr q8 to : Int} {a : Act} {w : World} (t0 : a.eval (.tmp 0) = .int .i64 o) (t13 : a.eval (.tmp 13) = .int .i64 wd) (hwd : wd < 65536) (ho : 0 < o) (hfr : (↑wd : Int) % o = fr) (hq8 : (↑wd : Int) / 8 = q8) (hto : q8 % o = to) : OpOk Try.prog opsTr8 (wordsTr8 wd o fr q8 to) 109 a w 6 := by
  refine OpOk.gen rfl (fun a1 w1 H => ?_)
  have d4 : a1.eval (.tmp 41) = .int .i64 q8 := H.dep 4 41 rfl (by kernel_rfl)
  have d5 : a1.eval (.tmp 42) = .int .i64 o := H.dep 5 42 rfl (by kernel_rfl)
  refine gd_none ?_
  exact OpW.bin d4 d5 (rem3r (by omega) ho hto _) rfl
theorem okTr8_7 {wd : Nat} {o fr q8 to : Int} {a : Act} {w : World} (t0 : a.eval (.tmp 0) = .int .i64 o) (t13 : a.eval (.tmp 13) = .int .i64 wd) (hwd : wd < 65536) (ho : 0 < o) (hfr : (↑wd : Int) % o = fr) (hq8 : (↑wd : Int) / 8 = q8) (hto : q8 % o = to) : OpOk Try.prog opsTr8 (wordsTr8 wd o fr q8 to) 109 a w 7 := by
  refine OpOk.gen rfl (fun a1 w1 H => ?_)
  have d2 : a1.eval (.tmp 39) = .int .i64 fr := H.dep 2 39 rfl (by kernel_rfl)
  refine gd_none ?_
  exact OpW.assign d2 rfl
theorem okTr8_8 {wd : Nat} {o fr q8 to : Int} {a : Act} {w : World} (t0 : a.eval (.tmp 0) = .int .i64 o) (t13 : a.eval (.tmp 13) = .int .i64 wd) (hwd : wd < 65536) (ho : 0 < o) (hfr : (↑wd : Int) % o = fr) (hq8 : (↑wd : Int) / 8 = q8) (hto : q8 % o = to) : OpOk Try.prog opsTr8 (wordsTr8 wd o fr q8 to) 109 a w 8 := by
  refine OpOk.gen rfl (fun a1 w1 H => ?_)
  have d6 : a1.eval (.tmp 43) = .int .i64 to := H.dep 6 43 rfl (by kernel_rfl)
  refine gd_none ?_
  exact OpW.assign d6 rfl
theorem regionTr8 {F : Fence} {n : Nat} (hF : WideF F Try.prog) {Q : Exit → Act → World → Prop} {wd : Nat} {o fr q8 to : Int} {a : Act} {w : World} (hsz : a.tmps.size = 109)
    (t0 : a.eval (.tmp 0) = .int .i64 o) (t13 : a.eval (.tmp 13) = .int .i64 wd) (hwd : wd < 65536) (ho : 0 < o) (hfr : (↑wd : Int) % o = fr) (hq8 : (↑wd : Int) / 8 = q8) (hto : q8 % o = to)
    (hK : ∀ (a' : Act) (w' : World), a'.tmps.size = 109 → a'.defers = a.defers → Below w.heap.size w w' → (∀ e, ndstB opsTr8 e = true → a'.eval (.tmp e) = a.eval (.tmp e)) → (∀ (j d : Nat), (opsTr8[j]?).bind (·.dst) = some d → (wordsTr8 wd o fr q8 to).at_ j (a'.eval (.tmp d)) w') → Q .normal a' w') :
    (Code.region 8 opsTr8 true).wpIn F n Try.prog Q a w := by
  refine region_S (wordsTr8 wd o fr q8 to) 109 hF (by kernel_rfl) Try.mixed (by kernel_rfl) (by kernel_rfl) ?_ hsz 9 (by kernel_rfl) ?_ hK
  · exact ⟨(fun _ _ _ h _ => h), (fun _ _ _ h _ => h), (fun _ _ _ h _ => h), (fun _ _ _ h _ => h), (fun _ _ _ h _ => h), (fun _ _ _ h _ => h), (fun _ _ _ h _ => h), (fun _ _ _ h _ => h), (fun _ _ _ h _ => h), trivial⟩
  · exact ⟨⟨⟨⟨⟨⟨⟨⟨⟨trivial, okTr8_0 t0 t13 hwd ho hfr hq8 hto⟩, okTr8_1 t0 t13 hwd ho hfr hq8 hto⟩, okTr8_2 t0 t13 hwd ho hfr hq8 hto⟩, okTr8_3 t0 t13 hwd ho hfr hq8 hto⟩, okTr8_4 t0 t13 hwd ho hfr hq8 hto⟩, okTr8_5 t0 t13 hwd ho hfr hq8 hto⟩, okTr8_6 t0 t13 hwd ho hfr hq8 hto⟩, okTr8_7 t0 t13 hwd ho hfr hq8 hto⟩, okTr8_8 t0 t13 hwd ho hfr hq8 hto⟩
section
attribute [local irreducible] AnyK StepK
noncomputable def opsTr17 : Array Oper := (Try.f39.body.bind (regionOf 17)).getD #[]
set_option maxHeartbeats 2000000 in
theorem regionTr17 {F : Fence} {n : Nat} (hF : WideF F Try.prog) {Q : Exit → Act → World → Prop} {a : Act} {w : World} {p8 wd B : Nat} {dy fr to st q6 qm q5 m5 q2 m2 : Int} {v : Value} {l : List Sale} (hsz : a.tmps.size = 109)
    (t8 : a.eval (.tmp 8) = .pointer (some ⟨p8, 0, none⟩)) (t11 : a.eval (.tmp 11) = .int .i64 dy) (t13 : a.eval (.tmp 13) = .int .i64 wd) (t14 : a.eval (.tmp 14) = .int .i64 fr) (t15 : a.eval (.tmp 15) = .int .i64 to) (t18 : a.eval (.tmp 18) = .int .i64 st)
    (m0 : w.cell? ⟨p8, 2, none⟩ = some (v)) (hwd : wd < 65536) (hst : 0 < st ∧ st ≤ 1000) (hdy : 0 ≤ dy ∧ dy ≤ 100) (hq6 : (↑wd : Int) / 256 = q6) (hqm : q6 % st = qm) (hqb : 0 ≤ qm ∧ qm < st) (hq5 : (↑wd : Int) / 512 = q5) (hm5 : q5 % 4 = m5) (hq2 : (↑wd : Int) / 2048 = q2) (hm2 : q2 % 4 = m2) (ho : w.ownsRow B 73 5 v l.length (salesL l)) (hl : l.length ≤ 12) (hBw : B ≤ w.heap.size) (hp8 : p8 < B) (hpf : w.frozen? ⟨p8, 2, none⟩ = false)
    (hK : ∀ a' W' A2 c2, Below B w W' → (∀ q, q < w.heap.size → some q ≠ v.ownBlock → W'.heap[q]? = w.heap[q]?) → W'.ownsRow B 73 5 (.slice A2 (l ++ [(⟨fr, to, 1 + qm, max 0 (dy - m5), min 100 (dy + m2)⟩ : Sale)]).length c2) (l ++ [(⟨fr, to, 1 + qm, max 0 (dy - m5), min 100 (dy + m2)⟩ : Sale)]).length (salesL (l ++ [(⟨fr, to, 1 + qm, max 0 (dy - m5), min 100 (dy + m2)⟩ : Sale)])) → a'.tmps.size = 109 → a'.defers = a.defers → (∀ e : Nat, e < 72 → a'.eval (.tmp e) = a.eval (.tmp e)) → Q .normal a' (W'.setCell ⟨p8, 2, none⟩ (.slice A2 (l ++ [(⟨fr, to, 1 + qm, max 0 (dy - m5), min 100 (dy + m2)⟩ : Sale)]).length c2))) :
    (Code.region 17 opsTr17 true).wpIn F n Try.prog Q a w := by
  have hR : (fun w : World => w.cell? ⟨p8, 2, none⟩ = some (v)) w.drew := m0
  have hB : Below w.heap.size w w.drew := (Below.refl _ _).drew
  refine region_K (KpR (fun w => w.cell? ⟨p8, 2, none⟩ = some (v)) (fun j => j == 26)) hF (by kernel_rfl) Try.mixed ?_
  change AnyK _ _ _ _ 27 (Array.replicate 27 false) _ _
  generalize w.drew = W at *
  refine AnyK.field (i := 0) (may_free rfl (by kernel_rfl) (by kernel_rfl) (by kernel_rfl)) (u := .pointer (some ⟨p8, 0, none⟩)) (v := .pointer (some ⟨p8, 2, none⟩)) (by simp [t8]) (fun w => fa24_2 w) trivial ?_
  refine AnyK.load (i := 1) may_o (p := ⟨p8, 2, none⟩) (v := v) (by simp [hsz]) (fun w hw => ld22 hw) hR ?_
  refine AnyK.move (i := 2) (may_free rfl (by kernel_rfl) (by kernel_rfl) (by kernel_rfl)) (v := .int .i64 fr) (by simp [t14]) trivial ?_
  refine AnyK.move (i := 3) (may_free rfl (by kernel_rfl) (by kernel_rfl) (by kernel_rfl)) (v := .int .i64 to) (by simp [t15]) trivial ?_
  refine AnyK.move (i := 4) (may_free rfl (by kernel_rfl) (by kernel_rfl) (by kernel_rfl)) (v := .int .i64 wd) (by simp [t13]) trivial ?_
  refine AnyK.bin (i := 5) (may_free rfl (by kernel_rfl) (by kernel_rfl) (by kernel_rfl)) (u := .int .i64 wd) (u' := .int .i64 (256)) (v := .int .i64 q6) (by simp [hsz]) (by simp) (fun w => quo3r (by omega) (by omega) (by omega) hq6 w) trivial ?_
  refine AnyK.move (i := 6) (may_free rfl (by kernel_rfl) (by kernel_rfl) (by kernel_rfl)) (v := .int .i64 st) (by simp [t18]) trivial ?_
  refine AnyK.bin (i := 7) (may_free rfl (by kernel_rfl) (by kernel_rfl) (by kernel_rfl)) (u := .int .i64 q6) (u' := .int .i64 st) (v := .int .i64 qm) (by simp [hsz]) (by simp [hsz]) (fun w => rem3r (by omega) (by omega) hqm w) trivial ?_
  refine AnyK.bin (i := 8) (may_free rfl (by kernel_rfl) (by kernel_rfl) (by kernel_rfl)) (u := .int .i64 (1)) (u' := .int .i64 qm) (v := .int .i64 (1 + qm)) (by simp) (by simp [hsz]) (fun w => add3 (by omega) (by omega) w) trivial ?_
  refine AnyK.move (i := 9) (may_free rfl (by kernel_rfl) (by kernel_rfl) (by kernel_rfl)) (v := .int .i64 dy) (by simp [t11]) trivial ?_
  refine AnyK.move (i := 10) (may_free rfl (by kernel_rfl) (by kernel_rfl) (by kernel_rfl)) (v := .int .i64 wd) (by simp [t13]) trivial ?_
  refine AnyK.bin (i := 11) (may_free rfl (by kernel_rfl) (by kernel_rfl) (by kernel_rfl)) (u := .int .i64 wd) (u' := .int .i64 (512)) (v := .int .i64 q5) (by simp [hsz]) (by simp) (fun w => quo3r (by omega) (by omega) (by omega) hq5 w) trivial ?_
  refine AnyK.bin (i := 12) (may_free rfl (by kernel_rfl) (by kernel_rfl) (by kernel_rfl)) (u := .int .i64 q5) (u' := .int .i64 (4)) (v := .int .i64 m5) (by simp [hsz]) (by simp) (fun w => rem3r (by omega) (by omega) hm5 w) trivial ?_
  refine AnyK.bin (i := 13) (may_free rfl (by kernel_rfl) (by kernel_rfl) (by kernel_rfl)) (u := .int .i64 dy) (u' := .int .i64 m5) (v := .int .i64 (dy - m5)) (by simp [hsz]) (by simp [hsz]) (fun w => sub3 (by omega) (by omega) w) trivial ?_
  refine AnyK.bi2 (i := 14) (may_free rfl (by kernel_rfl) (by kernel_rfl) (by kernel_rfl)) (u := .int .i64 (dy - m5)) (v := .int .i64 (max 0 (dy - m5))) (by simp [hsz]) (fun w => mxc _ _ _ w) trivial ?_
  refine AnyK.move (i := 15) (may_free rfl (by kernel_rfl) (by kernel_rfl) (by kernel_rfl)) (v := .int .i64 dy) (by simp [t11]) trivial ?_
  refine AnyK.move (i := 16) (may_free rfl (by kernel_rfl) (by kernel_rfl) (by kernel_rfl)) (v := .int .i64 wd) (by simp [t13]) trivial ?_
  refine AnyK.bin (i := 17) (may_free rfl (by kernel_rfl) (by kernel_rfl) (by kernel_rfl)) (u := .int .i64 wd) (u' := .int .i64 (2048)) (v := .int .i64 q2) (by simp [hsz]) (by simp) (fun w => quo3r (by omega) (by omega) (by omega) hq2 w) trivial ?_
  refine AnyK.bin (i := 18) (may_free rfl (by kernel_rfl) (by kernel_rfl) (by kernel_rfl)) (u := .int .i64 q2) (u' := .int .i64 (4)) (v := .int .i64 m2) (by simp [hsz]) (by simp) (fun w => rem3r (by omega) (by omega) hm2 w) trivial ?_
  refine AnyK.bin (i := 19) (may_free rfl (by kernel_rfl) (by kernel_rfl) (by kernel_rfl)) (u := .int .i64 dy) (u' := .int .i64 m2) (v := .int .i64 (dy + m2)) (by simp [hsz]) (by simp [hsz]) (fun w => add3 (by omega) (by omega) w) trivial ?_
  refine AnyK.bi2 (i := 20) (may_free rfl (by kernel_rfl) (by kernel_rfl) (by kernel_rfl)) (u := .int .i64 (dy + m2)) (v := .int .i64 (min 100 (dy + m2))) (by simp [hsz]) (fun w => mnc _ _ _ w) trivial ?_
  refine AnyK.bld (i := 21) (may_free rfl (by kernel_rfl) (by kernel_rfl) (by kernel_rfl)) (ps := #[(0, .int .i64 (max 0 (dy - m5))), (1, .int .i64 (min 100 (dy + m2)))]) (v := .agg #[.int .i64 (max 0 (dy - m5)), .int .i64 (min 100 (dy + m2))]) (by simp [hsz]) (fun w => bd71 _ _ w) trivial ?_
  refine AnyK.bld (i := 22) (may_free rfl (by kernel_rfl) (by kernel_rfl) (by kernel_rfl)) (ps := #[(0, .int .i64 fr), (1, .int .i64 to), (2, .int .i64 (1 + qm)), (3, .agg #[.int .i64 (max 0 (dy - m5)), .int .i64 (min 100 (dy + m2))])]) (v := .agg #[.int .i64 fr, .int .i64 to, .int .i64 (1 + qm), .int .i64 (max 0 (dy - m5)), .int .i64 (min 100 (dy + m2))]) (by simp [hsz]) (fun w => bd73 _ _ _ _ _ w) trivial ?_
  refine AnyK.pick1 (i := 23) (by kernel_rfl) ?_
  refine StepK.buildG (i := 23) (ps := #[(0, .agg #[.int .i64 fr, .int .i64 to, .int .i64 (1 + qm), .int .i64 (max 0 (dy - m5)), .int .i64 (min 100 (dy + m2))])]) (v := .slice (some ⟨W.heap.size, 0, none⟩) 1 1) rfl (by simp [hsz]) (bs22_1 (⟨fr, to, 1 + qm, max 0 (dy - m5), min 100 (dy + m2)⟩ : Sale) W) (fun _ hw => cell_alloc_l _ hw) ?_
  have tw := Whole.new W 73 (saleC (⟨fr, to, 1 + qm, max 0 (dy - m5), min 100 (dy + m2)⟩ : Sale))
  replace hR : (fun w : World => w.cell? ⟨p8, 2, none⟩ = some (v)) (W.alloc (.cells (saleC (⟨fr, to, 1 + qm, max 0 (dy - m5), min 100 (dy + m2)⟩ : Sale)) 73)) := cell_alloc_l _ hR
  replace hB := hB.alloc hB.size (.cells (saleC (⟨fr, to, 1 + qm, max 0 (dy - m5), min 100 (dy + m2)⟩ : Sale)) 73)
  generalize W.heap.size = p23 at *
  generalize W.alloc (.cells (saleC (⟨fr, to, 1 + qm, max 0 (dy - m5), min 100 (dy + m2)⟩ : Sale)) 73) = W23 at *
  clear W
  obtain ⟨W, rfl⟩ : ∃ W, W = W23 := ⟨_, rfl⟩
  refine AnyK.pick1 (i := 24) (by kernel_rfl) ?_
  have hoW := ho.kept (grown_of_below hB) (by cases v.ownBlock <;> simp)
  have hbW : B ≤ W.heap.size := by have := hB.size; omega
  obtain ⟨v24, W24, hr24, ho24, hg24, hv24⟩ := app22_run W 22 (xs := l) (ys := [(⟨fr, to, 1 + qm, max 0 (dy - m5), min 100 (dy + m2)⟩ : Sale)]) (A := some ⟨p23, 0, none⟩) (c := 1) hoW (sale_new tw) (by omega) (by simp) hbW
  have hk24 : ∀ q : Addr, q.block < B → W24.cell? q = W.cell? q := fun q hq => World.cell?_of_block (hg24.block _ (by omega) (fun e => by have := (hoW.lt _ e.symm).1; omega))
  refine StepK.app22r (i := 24) (v := v) (v2 := .slice (some ⟨p23, 0, none⟩) 1 1) rfl (by simp [hsz]) (by simp [hsz]) hr24 (fun _ hw => (hk24 _ (by show p8 < B; omega)).trans hw) ?_
  replace hR : (fun w : World => w.cell? ⟨p8, 2, none⟩ = some (v)) (W24) := (hk24 _ (by show p8 < B; omega)).trans hR
  have hBB : Below B w W24 := (hB.mono hBw).grown hg24 hbW (fun q e => (hoW.lt _ e).1)
  have hsm : ∀ q, q < w.heap.size → some q ≠ v.ownBlock → W24.heap[q]? = w.heap[q]? := fun q hq hne => (hg24.block q (by have := hB.size; omega) hne).trans (hB.block q hq)
  clear hoW hr24 hg24 hv24 hk24 hB tw hbW
  clear W
  obtain ⟨W, rfl⟩ : ∃ W, W = W24 := ⟨_, rfl⟩
  refine AnyK.field (i := 25) (may_free rfl (by kernel_rfl) (by kernel_rfl) (by kernel_rfl)) (u := .pointer (some ⟨p8, 0, none⟩)) (v := .pointer (some ⟨p8, 2, none⟩)) (by simp [t8]) (fun w => fa24_2 w) trivial ?_
  refine AnyK.pick1 (i := 26) (by kernel_rfl) ?_
  obtain ⟨A2, c2, e2, _⟩ := sales_of_owns73 ho24
  subst e2
  refine StepK.store (i := 26) (u := .pointer (some ⟨p8, 2, none⟩)) (u' := .slice A2 (l ++ [(⟨fr, to, 1 + qm, max 0 (dy - m5), min 100 (dy + m2)⟩ : Sale)]).length c2) rfl (by simp [hsz]) (by simp [hsz]) (st22 hR ((hBB.frozen (p := ⟨p8, 2, none⟩) hp8).trans hpf)) (fun h => by cases h) ?_
  refine AnyK.done (by kernel_rfl) (hK _ _ _ _ hBB hsm ho24 ?_ ?_ ?_)
  · simp only [size_put, hsz]
  · simp only [defers_put]
  · intro e he
    iterate 26 refine (ev_ne (by omega)).trans ?_
    rfl

end
end Go.Proofs.Ytfcnombmphophaa
namespace Go.Proofs.Ytfcnombmphophaa
open Go.RowKit Go.Shelf
noncomputable def opsTy0 : Array Oper := (Try.f39.body.bind (regionOf 0)).getD #[]
noncomputable def opsTy1 : Array Oper := (Try.f39.body.bind (regionOf 1)).getD #[]
noncomputable def opsTy2 : Array Oper := (Try.f39.body.bind (regionOf 2)).getD #[]
noncomputable def opsTy3 : Array Oper := (Try.f39.body.bind (regionOf 3)).getD #[]
noncomputable def opsTy4 : Array Oper := (Try.f39.body.bind (regionOf 4)).getD #[]
noncomputable def opsTy5 : Array Oper := (Try.f39.body.bind (regionOf 5)).getD #[]
noncomputable def opsTy6 : Array Oper := (Try.f39.body.bind (regionOf 6)).getD #[]
noncomputable def opsTy7 : Array Oper := (Try.f39.body.bind (regionOf 7)).getD #[]
noncomputable def opsTy9 : Array Oper := (Try.f39.body.bind (regionOf 9)).getD #[]
noncomputable def opsTy10 : Array Oper := (Try.f39.body.bind (regionOf 10)).getD #[]
noncomputable def opsTy11 : Array Oper := (Try.f39.body.bind (regionOf 11)).getD #[]
noncomputable def opsTy12 : Array Oper := (Try.f39.body.bind (regionOf 12)).getD #[]
noncomputable def opsTy13 : Array Oper := (Try.f39.body.bind (regionOf 13)).getD #[]
noncomputable def opsTy14 : Array Oper := (Try.f39.body.bind (regionOf 14)).getD #[]
noncomputable def opsTy15 : Array Oper := (Try.f39.body.bind (regionOf 15)).getD #[]
noncomputable def opsTy16 : Array Oper := (Try.f39.body.bind (regionOf 16)).getD #[]
noncomputable def opsTy18 : Array Oper := (Try.f39.body.bind (regionOf 18)).getD #[]
noncomputable def opsTy19 : Array Oper := (Try.f39.body.bind (regionOf 19)).getD #[]
noncomputable def tr_d : Code := (.seq (.region 19 opsTy19 false) .ret)
noncomputable def code39 : Code := (.seq (.region 0 opsTy0 false) (.seq (.region 1 opsTy1 false) (.seq (.region 2 opsTy2 false) (.seq (.region 3 opsTy3 false) (.seq (.seq (.region 4 opsTy4 false) (.block 0 (.loop (.seq (.seq (.region 5 opsTy5 false) (.cond (.tmp 29) .skip (.exit 0))) (.seq (.block 1 (.seq (.region 7 opsTy7 false) (.seq (.region 8 opsTr8 true) (.seq (.region 9 opsTy9 false) (.seq (.seq (.region 10 opsTy10 false) (.block 2 (.loop (.seq (.seq (.region 11 opsTy11 false) (.cond (.tmp 48) .skip (.exit 2))) (.seq (.block 3 (.region 13 opsTy13 false)) (.region 12 opsTy12 false)))))) (.seq (.region 14 opsTy14 false) (.seq (.seq (.region 15 opsTy15 false) (.cond (.tmp 65) (.exit 1) .skip)) (.seq (.region 16 opsTy16 false) (.seq (.region 17 opsTr17 true) (.region 18 opsTy18 false)))))))))) (.region 6 opsTy6 false)))))) tr_d)))))
theorem body39 : Try.f39.body = some code39 := by kernel_rfl
def TrG (o : Int) (A1 : Option Addr) (n c1 p6 p8 : Nat) (vo vd : Value) (dy : Int) (i : Nat) (a : Act) : Prop := a.tmps.size = 109 ∧ a.defers = [] ∧ a.eval (.tmp 0) = .int .i64 o ∧ a.eval (.tmp 2) = .slice A1 n c1 ∧ a.eval (.tmp 6) = .pointer (some ⟨p6, 0, none⟩) ∧ a.eval (.tmp 8) = .pointer (some ⟨p8, 0, none⟩) ∧ a.eval (.tmp 9) = vo ∧ a.eval (.tmp 10) = vd ∧ a.eval (.tmp 11) = .int .i64 dy ∧ a.eval (.tmp 12) = .int .i64 i
def TrF (o : Int) (A1 : Option Addr) (n c1 p6 p8 : Nat) (vo vd : Value) (dy : Int) (i wd : Nat) (fr to : Int) (a : Act) : Prop := a.tmps.size = 109 ∧ a.defers = [] ∧ a.eval (.tmp 0) = .int .i64 o ∧ a.eval (.tmp 2) = .slice A1 n c1 ∧ a.eval (.tmp 6) = .pointer (some ⟨p6, 0, none⟩) ∧ a.eval (.tmp 8) = .pointer (some ⟨p8, 0, none⟩) ∧ a.eval (.tmp 9) = vo ∧ a.eval (.tmp 10) = vd ∧ a.eval (.tmp 11) = .int .i64 dy ∧ a.eval (.tmp 12) = .int .i64 i ∧ a.eval (.tmp 13) = .int .i64 wd ∧ a.eval (.tmp 14) = .int .i64 fr ∧ a.eval (.tmp 15) = .int .i64 to
/-- The memory: the batch and its sales. -/
structure TrK (W : World) (p6 p8 : Nat) (o t : Int) (vs : Value) (l : List Sale) (W' : World) : Prop where
  low : Below W.heap.size W W'
  k6 : Whole W' p6 24 #[.int .i64 0, .int .i64 0, .slice none 0 0]
  k8 : Whole W' p8 24 #[.int .i64 o, .int .i64 t, vs]
  os : W'.ownsRow (p8 + 1) 73 5 vs l.length (salesL l)
  p6W : W.heap.size ≤ p6
  p68 : p6 < p8
theorem own_cells {w : World} {B e sz n : Nat} {v : Value} {xs : List Value} (h : w.ownsRow B e sz v n xs) {g : Nat} (hg : v.ownBlock = some g) : B ≤ g ∧ ∃ cur, w.heap[g]? = some (.cells cur e (0, 0)) := by
  rcases h.2 with ⟨rfl, _⟩ | ⟨g', cap, cur, rfl, hb, hgg, _⟩
  · cases hg
  · cases hg
    exact ⟨hb, cur, hgg⟩
theorem own_apart {w : World} {B e sz n B' e' sz' n' : Nat} {v v' : Value} {xs ys : List Value} (h : w.ownsRow B e sz v n xs) (h' : w.ownsRow B' e' sz' v' n' ys) (he : e ≠ e') {g : Nat} (hg : v.ownBlock = some g) : some g ≠ v'.ownBlock := by
  intro hg'
  obtain ⟨_, cur, h1⟩ := own_cells h hg
  obtain ⟨_, cur', h2⟩ := own_cells h' hg'.symm
  rw [h1] at h2
  cases h2
  exact he rfl
theorem own_whole {w : World} {B e sz n g0 t : Nat} {v : Value} {xs : List Value} {cs : Array Value} (h : w.ownsRow B e sz v n xs) (hw : Whole w g0 t cs) (he : e ≠ t) : some g0 ≠ v.ownBlock := by
  intro hg
  obtain ⟨_, cur, h1⟩ := own_cells h hg.symm
  unfold Whole at hw
  rw [h1] at hw
  cases hw
  exact he rfl
section
variable {W W' W'' W2 : World} {p6 p8 : Nat} {o t : Int} {vs vo vd v : Value} {l : List Sale} {n : Nat} {xs : List Value}
theorem TrK.below (h : TrK W p6 p8 o t vs l W') (hb : Below W'.heap.size W' W'') : TrK W p6 p8 o t vs l W'' :=
  ⟨h.low.trans (hb.mono h.low.size), h.k6.below hb h.k6.lt, h.k8.below hb h.k8.lt, h.os.kept (grown_of_below hb) (by cases vs.ownBlock <;> simp), h.p6W, h.p68⟩
theorem TrK.grow (h : TrK W p6 p8 o t vs l W') (hv : W'.ownsRow p8 3 1 v n xs) (hg : W'.grownBy W'' v.ownBlock) : TrK W p6 p8 o t vs l W'' := by
  have e6 := own_whole hv h.k6 (by decide)
  have e8 := own_whole hv h.k8 (by decide)
  have h1 := h.p6W
  have h2 := h.p68
  refine ⟨h.low.grown hg h.low.size (fun k e => by have := (own_cells hv e).1; omega), (hg.block _ h.k6.lt e6).trans h.k6, (hg.block _ h.k8.lt e8).trans h.k8, own_same h.os fun g e => hg.block g (h.os.lt g e).2 (own_apart h.os hv (by decide) e), h.p6W, h.p68⟩
end
section
variable {o t dy fr to : Int} {A A1 : Option Addr} {n c c1 p6 p8 i wd k : Nat} {vo vd v : Value} {l : List Sale} {a1 : Act} {W Wr W1 : World} {Q : Exit → Act → World → Prop}
theorem tr12 (hk : k < l.length) (hl : l.length ≤ 12) (hf : TrF o A1 n c1 p6 p8 vo vd dy i wd fr to a1) (h16 : a1.eval (.tmp 16) = v) (h17 : a1.eval (.tmp 17) = .int .i64 k) (hQ : ∀ a', TrF o A1 n c1 p6 p8 vo vd dy i wd fr to a' → a'.eval (.tmp 16) = v → a'.eval (.tmp 17) = .int .i64 ((k + 1 : Nat) : Int) → Q .normal a' W) : (Code.region 12 opsTy12 false).wpIn Fence.wide 5 Try.prog Q a1 W := by
  obtain ⟨hz_a1, hd_a1, u0, u2, u6, u8, u9, u10, u11, u12, u13, u14, u15⟩ := hf
  refine region_p 3 ?_
  intro K hK
  refine ListK.move (i := 0) (v := .int .i64 k) rfl (by simp [h17]) ?_
  refine ListK.bin (i := 1) (u := .int .i64 k) (u' := .int .i64 1) (v := .int .i64 (k + 1)) rfl (by simp [hz_a1]) (by simp) (add3 (by omega) (by omega) _) ?_
  refine ListK.assign (i := 2) (v := .int .i64 ((k + 1 : Nat) : Int)) rfl (by simp [hz_a1]) ?_
  skip
  exact ListK.done (hK _ _ (hQ _ ⟨(by simp only [size_put, hz_a1]), (by simp only [defers_put, hd_a1]), (by simp [u0]), (by simp [u2]), (by simp [u6]), (by simp [u8]), (by simp [u9]), (by simp [u10]), (by simp [u11]), (by simp [u12]), (by simp [u13]), (by simp [u14]), (by simp [u15])⟩ (by simp [h16]) (by simp [hz_a1])))
set_option maxHeartbeats 1000000 in
/-- The numbers of all sales so far. -/
theorem tr10 (hl : l.length ≤ 12) (hf : TrF o A1 n c1 p6 p8 vo vd dy i wd fr to a1) (h16 : a1.eval (.tmp 16) = .slice none 0 0) (k8 : Whole Wr p8 24 #[.int .i64 o, .int .i64 t, .slice A l.length c])
    (hQ : ∀ a' W' v, TrF o A1 n c1 p6 p8 vo vd dy i wd fr to a' → a'.eval (.tmp 16) = v → OL Wr v (upTo l.length) W' → Q .normal a' W') :
    (Code.seq (.region 10 opsTy10 false) (.block 2 (.loop (.seq (.seq (.region 11 opsTy11 false) (.cond (.tmp 48) .skip (.exit 2))) (.seq (.block 3 (.region 13 opsTy13 false)) (.region 12 opsTy12 false)))))).wpIn Fence.wide 5 Try.prog Q a1 Wr := by
  obtain ⟨hz_a1, hd_a1, u0, u2, u6, u8, u9, u10, u11, u12, u13, u14, u15⟩ := hf
  refine wpIn_seq (region_p 1 ?_)
  intro K hK
  refine ListK.assign (i := 0) (v := .int .i64 0) rfl (by simp) ?_
  refine ListK.done (hK _ _ ?_)
  clear hK K
  refine wpIn_block (wpIn_loop (fun a W' => ∃ (k : Nat) (v : Value), k ≤ l.length ∧ TrF o A1 n c1 p6 p8 vo vd dy i wd fr to a ∧ a.eval (.tmp 16) = v ∧ a.eval (.tmp 17) = .int .i64 k ∧ OL Wr v (upTo k) W') (fun a _ => l.length - (intOf (a.eval (.tmp 17))).toNat)
    ⟨0, .slice none 0 0, Nat.zero_le _, ⟨(by simp only [size_put, hz_a1]), (by simp only [defers_put, hd_a1]), (by simp [u0]), (by simp [u2]), (by simp [u6]), (by simp [u8]), (by simp [u9]), (by simp [u10]), (by simp [u11]), (by simp [u12]), (by simp [u13]), (by simp [u14]), (by simp [u15])⟩, (by simp [h16]), (by simp [hz_a1]), ⟨Below.refl _ _, World.ownsRow_nil _ _ _ _⟩⟩ ?_)
  clear hz_a1 hd_a1 u0 u2 u6 u8 u9 u10 u11 u12 u13 u14 u15 h16
  rintro a2 W2 ⟨k, v, hk, hf, h16, h17, hol⟩
  obtain ⟨hz_a2, hd_a2, u0, u2, u6, u8, u9, u10, u11, u12, u13, u14, u15⟩ := hf
  have k82 := k8.below hol.low k8.lt
  refine wpIn_seq (wpIn_seq (region_p 5 ?_))
  intro K hK
  refine ListK.move (i := 0) (v := .int .i64 k) rfl (by simp [h17]) ?_
  refine ListK.field (i := 1) (u := .pointer (some ⟨p8, 0, none⟩)) (v := .pointer (some ⟨p8, 2, none⟩)) rfl (by simp [u8]) (fa24_2 _) ?_
  refine ListK.load (i := 2) (p := ⟨p8, 2, none⟩) (v := .slice A l.length c) rfl (by simp [hz_a2]) (ld22 (k82.cell 2)) ?_
  refine ListK.len (i := 3) (u := .slice A l.length c) (v := .int .i64 l.length) rfl (by simp [hz_a2]) (ln22 _ _ _ _ _) rfl ?_
  refine ListK.bin (i := 4) (u := .int .i64 k) (u' := .int .i64 (l.length : Int)) (v := .bool (decide (k < (l.length : Int)))) rfl (by simp [hz_a2]) (by simp [hz_a2]) (lss3 _) ?_
  refine ListK.done (hK _ _ ?_)
  clear hK K
  by_cases hkl : k < l.length
  · refine wpIn_cond (t := true) (by simp [hz_a2]; omega) (wpIn_skip ?_)
    generalize hA : Act.put _ _ _ = a3
    have hz_a3 : a3.tmps.size = 109 := by rw [← hA]; simp only [size_put, hz_a2]
    have x0 : a3.eval (.tmp 0) = .int .i64 o := by rw [← hA]; exact (by simp [u0])
    have x2 : a3.eval (.tmp 2) = .slice A1 n c1 := by rw [← hA]; exact (by simp [u2])
    have x6 : a3.eval (.tmp 6) = .pointer (some ⟨p6, 0, none⟩) := by rw [← hA]; exact (by simp [u6])
    have x8 : a3.eval (.tmp 8) = .pointer (some ⟨p8, 0, none⟩) := by rw [← hA]; exact (by simp [u8])
    have x9 : a3.eval (.tmp 9) = vo := by rw [← hA]; exact (by simp [u9])
    have x10 : a3.eval (.tmp 10) = vd := by rw [← hA]; exact (by simp [u10])
    have x11 : a3.eval (.tmp 11) = .int .i64 dy := by rw [← hA]; exact (by simp [u11])
    have x12 : a3.eval (.tmp 12) = .int .i64 i := by rw [← hA]; exact (by simp [u12])
    have x13 : a3.eval (.tmp 13) = .int .i64 wd := by rw [← hA]; exact (by simp [u13])
    have x14 : a3.eval (.tmp 14) = .int .i64 fr := by rw [← hA]; exact (by simp [u14])
    have x15 : a3.eval (.tmp 15) = .int .i64 to := by rw [← hA]; exact (by simp [u15])
    have x16 : a3.eval (.tmp 16) = v := by rw [← hA]; exact (by simp [h16])
    have x17 : a3.eval (.tmp 17) = .int .i64 k := by rw [← hA]; exact (by simp [h17])
    have hd_a3 : a3.defers = [] := by rw [← hA]; simp only [defers_put, hd_a2]
    clear hA
    show (Code.seq _ _).wpIn _ _ _ _ _ _
    have hll := upTo_length k
    have hol1 := hol.below ((Below.refl _ W2).alloc (Nat.le_refl _) (.cells #[.int .i64 k] 3))
    refine wpIn_seq (wpIn_block (region_p 5 ?_))
    intro K6 hK6
    refine ListK.move (i := 0) (v := v) rfl (by simp [x16]) ?_
    refine ListK.move (i := 1) (v := .int .i64 k) rfl (by simp [x17]) ?_
    refine ListK.bsl (i := 2) (ps := #[(0, .int .i64 k)]) (v := .slice (some ⟨W2.heap.size, 0, none⟩) 1 1) rfl (by simp [hz_a3]) (bs25_1 _ _) ?_
    refine ListK.append (i := 3) rfl hol1.own (by simp [hz_a3]) ⟨W2.heap.size, 0, none⟩ 1 [.int .i64 k] (by simp [hz_a3]) rfl (news1 (cell_new1 W2 _ _)) (by simp [Value.oneCell']) (by unfold maxLen; omega) (by omega) hol1.low.size ?_
    intro g cap W3 hown hgr hat
    refine ListK.assign (i := 4) (v := .slice (some ⟨g, 0, none⟩) ((upTo k).length + 1) cap) rfl (by simp [hz_a3]) ?_
    refine ListK.done (hK6 _ _ ?_)
    refine tr12 (n := n) (c1 := c1) (p6 := p6) (vo := vo) (vd := vd) (dy := dy) (i := i) (v := .slice (some ⟨g, 0, none⟩) ((upTo k).length + 1) cap) hkl hl ⟨(by simp only [size_put, hz_a3]), (by simp only [defers_put, hd_a3]), (by simp [x0]), (by simp [x2]), (by simp [x6]), (by simp [x8]), (by simp [x9]), (by simp [x10]), (by simp [x11]), (by simp [x12]), (by simp [x13]), (by simp [x14]), (by simp [x15])⟩ (by simp [hz_a3]) (by simp [x17]) fun a4 f4 e16 e17 => ⟨⟨k + 1, _, by omega, f4, e16, e17, hol1.app hown hgr⟩, ?_⟩
    rw [e17, h17]
    simp only [intOf]
    omega
  · obtain rfl : k = l.length := by omega
    refine wpIn_cond (t := false) (by simp [hz_a2]) (wpIn_exit ?_)
    exact hQ _ _ v ⟨(by simp only [size_put, hz_a2]), (by simp only [defers_put, hd_a2]), (by simp [u0]), (by simp [u2]), (by simp [u6]), (by simp [u8]), (by simp [u9]), (by simp [u10]), (by simp [u11]), (by simp [u12]), (by simp [u13]), (by simp [u14]), (by simp [u15])⟩ (by simp [h16]) hol
end
end Go.Proofs.Ytfcnombmphophaa
