/- Texts for the laws of package recall, part 6: contracts of the program's functions, each for every input that its words name. -/
import Derived.Test.YtfcnombmphophaaN5
import Derived.Test.YtfcnombmphophaaN4
import Derived.OpenShut
import Derived.ChangeBook
import Derived.ChangeStays
import Derived.Deep.Frames
import Derived.ChangeOld

set_option linter.unusedVariables false

/-! Qk: The reference's IsTruth: are an order and days a truth of a batch? -/
namespace Go.Proofs.Ytfcnombmphophaa
open Go.RowKit Go.Shelf
theorem sl25 {b o n c k : Nat} (h : k ≤ c) (w : World) : (Instr.sliceAt 25 (.slice (some ⟨b, o, none⟩) n c) none (some (.int .i64 k)) none).run Try.prog w = .ok (.slice (some ⟨b, o, none⟩) k c) w := by
  go_simp
theorem OpW.sliceH {P : Program} {p : Value → World → Prop} {d : Nat} {a : Act} {w : World} {ty : TypeId} {pos : String} {aft : Array Edge} {gd : Option (Nat × Bool)} {t : TypeId} {x y : Operand} {u u' v : Value} (hx : a.eval x = u) (hy : a.eval y = u') (hv : (Instr.sliceAt t u none (some u') none).run P w = .ok v w) (hp : p v w) :
    OpW P p ⟨some d, .slice t x none (some y) none, ty, pos, aft, gd⟩ d a w := OpW.val rfl (by simp [execOp, hx, hy, hv]) hp (Below.refl _ _)
/-- Is an order, from some place on, one of a truth? -/
def isGo (t : Int) (l : List Sale) (dys : List Int) : List Int → List Int → Int → Bool
  | _, [], _ => true
  | pre, n :: ns, la => inR n 0 ((l.length : Int) - 1) && (mayR t l pre la n ((dys[n.toNat]?).getD 0) && isGo t l dys (pre ++ [n]) ns ((dys[n.toNat]?).getD 0))
def truthB (t : Int) (l : List Sale) (ord dys : List Int) : Bool := decide (ord.length = l.length) && (decide (dys.length = l.length) && isGo t l dys [] ord 0)
theorem isGo_step {t : Int} {l : List Sale} {dys ord : List Int} {la : Int} {k : Nat} (hk : k < ord.length) :
    isGo t l dys (ord.take k) (ord.drop k) la = (inR ord[k] 0 ((l.length : Int) - 1) && (mayR t l (ord.take k) la ord[k] ((dys[(ord[k]).toNat]?).getD 0) && isGo t l dys (ord.take (k + 1)) (ord.drop (k + 1)) ((dys[(ord[k]).toNat]?).getD 0))) := by
  rw [List.drop_eq_getElem_cons hk, isGo, List.take_succ_eq_append_getElem hk]
theorem IntsAt.take {w : World} {B : Nat} {A : Option Addr} {l : List Int} (h : IntsAt w B A l) (k : Nat) : IntsAt w B A (l.take k) := by
  intro j x hj
  rw [List.getElem?_take] at hj
  split at hj
  · exact h j x hj
  · cases hj
noncomputable def opsTr_0 : Array Oper := (Try.f22.body.bind (regionOf 0)).getD #[]
noncomputable def opsTr_1 : Array Oper := (Try.f22.body.bind (regionOf 1)).getD #[]
noncomputable def opsTr_2 : Array Oper := (Try.f22.body.bind (regionOf 2)).getD #[]
noncomputable def opsTr_3 : Array Oper := (Try.f22.body.bind (regionOf 3)).getD #[]
noncomputable def opsTr_4 : Array Oper := (Try.f22.body.bind (regionOf 4)).getD #[]
noncomputable def opsTr_5 : Array Oper := (Try.f22.body.bind (regionOf 5)).getD #[]
noncomputable def opsTr_6 : Array Oper := (Try.f22.body.bind (regionOf 6)).getD #[]
noncomputable def opsTr_8 : Array Oper := (Try.f22.body.bind (regionOf 8)).getD #[]
noncomputable def opsTr_9 : Array Oper := (Try.f22.body.bind (regionOf 9)).getD #[]
noncomputable def opsTr_10 : Array Oper := (Try.f22.body.bind (regionOf 10)).getD #[]
noncomputable def opsTr0 : Array Oper := (Try.f22.body.bind (regionOf 7)).getD #[]
def wordsTr0 (b1 o1 b3 k : Nat) (A A2 : Option Addr) (nl c n1 c1 n2 c2 : Nat) (o t la nn : Int) : Words := [fun v _ => v = .slice (some ⟨b1, o1, none⟩) n1 c1, fun v _ => v = .int .i64 k, fun v _ => v = .pointer (some ⟨b1, o1 + k, none⟩), fun v _ => v = .int .i64 nn, fun v _ => v = .pointer (some ⟨b3, 2, none⟩), fun v _ => v = .slice A nl c, fun v _ => v = .int .i64 nl, fun v _ => v = .int .i64 (nl - 1), fun v _ => v = .bool false, fun v _ => v = .bool true, fun v _ => v = .bool true, fun _ _ => True, fun _ _ => True, fun _ _ => True, fun _ _ => True, fun _ _ => True, fun _ _ => True, fun _ _ => True, fun _ _ => True, fun _ _ => True, fun _ _ => True, fun _ _ => True, fun _ _ => True, fun _ _ => True, fun _ _ => True, fun _ _ => True, fun _ _ => True, fun _ _ => True, fun _ _ => True, fun v _ => v = .bool true]
set_option maxRecDepth 10000 in
theorem okTr0_0 {b1 o1 b3 k : Nat} {A A2 : Option Addr} {nl c n1 c1 n2 c2 : Nat} {o t la nn : Int} {a : Act} {w : World} (t1 : a.eval (.tmp 1) = .slice (some ⟨b1, o1, none⟩) n1 c1) (t2 : a.eval (.tmp 2) = .slice A2 n2 c2) (t3 : a.eval (.tmp 3) = .pointer (some ⟨b3, 0, none⟩)) (t7 : a.eval (.tmp 7) = .int .i64 la) (t8 : a.eval (.tmp 8) = .int .i64 k) (q0 : w.cell? ⟨b3, 0, none⟩ = some (.int .i64 o)) (q1 : w.cell? ⟨b3, 1, none⟩ = some (.int .i64 t)) (q2 : w.cell? ⟨b3, 2, none⟩ = some (.slice A nl c)) (hnl : nl ≤ 12) (hk : k < n1) (m0 : w.cell? ⟨b1, o1 + k, none⟩ = some (.int .i64 nn)) (hi' : CV w 31 #[.int .i64 nn, .int .i64 0, .int .i64 (nl - 1)] (.bool false)) : OpOk Try.prog opsTr0 (wordsTr0 b1 o1 b3 k A A2 nl c n1 c1 n2 c2 o t la nn) 66 a w 0 := by
  refine OpOk.gen rfl (fun a1 w1 H => ?_)
  have e1 : a1.eval (.tmp 1) = .slice (some ⟨b1, o1, none⟩) n1 c1 := (H.out 1 (by kernel_rfl)).trans t1
  refine gd_none ?_
  exact OpW.move e1 rfl
set_option maxRecDepth 10000 in
theorem okTr0_1 {b1 o1 b3 k : Nat} {A A2 : Option Addr} {nl c n1 c1 n2 c2 : Nat} {o t la nn : Int} {a : Act} {w : World} (t1 : a.eval (.tmp 1) = .slice (some ⟨b1, o1, none⟩) n1 c1) (t2 : a.eval (.tmp 2) = .slice A2 n2 c2) (t3 : a.eval (.tmp 3) = .pointer (some ⟨b3, 0, none⟩)) (t7 : a.eval (.tmp 7) = .int .i64 la) (t8 : a.eval (.tmp 8) = .int .i64 k) (q0 : w.cell? ⟨b3, 0, none⟩ = some (.int .i64 o)) (q1 : w.cell? ⟨b3, 1, none⟩ = some (.int .i64 t)) (q2 : w.cell? ⟨b3, 2, none⟩ = some (.slice A nl c)) (hnl : nl ≤ 12) (hk : k < n1) (m0 : w.cell? ⟨b1, o1 + k, none⟩ = some (.int .i64 nn)) (hi' : CV w 31 #[.int .i64 nn, .int .i64 0, .int .i64 (nl - 1)] (.bool false)) : OpOk Try.prog opsTr0 (wordsTr0 b1 o1 b3 k A A2 nl c n1 c1 n2 c2 o t la nn) 66 a w 1 := by
  refine OpOk.gen rfl (fun a1 w1 H => ?_)
  have e8 : a1.eval (.tmp 8) = .int .i64 k := (H.out 8 (by kernel_rfl)).trans t8
  refine gd_none ?_
  exact OpW.move e8 rfl
set_option maxRecDepth 10000 in
theorem okTr0_2 {b1 o1 b3 k : Nat} {A A2 : Option Addr} {nl c n1 c1 n2 c2 : Nat} {o t la nn : Int} {a : Act} {w : World} (t1 : a.eval (.tmp 1) = .slice (some ⟨b1, o1, none⟩) n1 c1) (t2 : a.eval (.tmp 2) = .slice A2 n2 c2) (t3 : a.eval (.tmp 3) = .pointer (some ⟨b3, 0, none⟩)) (t7 : a.eval (.tmp 7) = .int .i64 la) (t8 : a.eval (.tmp 8) = .int .i64 k) (q0 : w.cell? ⟨b3, 0, none⟩ = some (.int .i64 o)) (q1 : w.cell? ⟨b3, 1, none⟩ = some (.int .i64 t)) (q2 : w.cell? ⟨b3, 2, none⟩ = some (.slice A nl c)) (hnl : nl ≤ 12) (hk : k < n1) (m0 : w.cell? ⟨b1, o1 + k, none⟩ = some (.int .i64 nn)) (hi' : CV w 31 #[.int .i64 nn, .int .i64 0, .int .i64 (nl - 1)] (.bool false)) : OpOk Try.prog opsTr0 (wordsTr0 b1 o1 b3 k A A2 nl c n1 c1 n2 c2 o t la nn) 66 a w 2 := by
  refine OpOk.gen rfl (fun a1 w1 H => ?_)
  have d0 : a1.eval (.tmp 29) = .slice (some ⟨b1, o1, none⟩) n1 c1 := H.dep 0 29 rfl (by kernel_rfl)
  have d1 : a1.eval (.tmp 30) = .int .i64 k := H.dep 1 30 rfl (by kernel_rfl)
  refine gd_none ?_
  exact OpW.index d0 d1 (ix25o hk _) rfl
set_option maxRecDepth 10000 in
theorem okTr0_3 {b1 o1 b3 k : Nat} {A A2 : Option Addr} {nl c n1 c1 n2 c2 : Nat} {o t la nn : Int} {a : Act} {w : World} (t1 : a.eval (.tmp 1) = .slice (some ⟨b1, o1, none⟩) n1 c1) (t2 : a.eval (.tmp 2) = .slice A2 n2 c2) (t3 : a.eval (.tmp 3) = .pointer (some ⟨b3, 0, none⟩)) (t7 : a.eval (.tmp 7) = .int .i64 la) (t8 : a.eval (.tmp 8) = .int .i64 k) (q0 : w.cell? ⟨b3, 0, none⟩ = some (.int .i64 o)) (q1 : w.cell? ⟨b3, 1, none⟩ = some (.int .i64 t)) (q2 : w.cell? ⟨b3, 2, none⟩ = some (.slice A nl c)) (hnl : nl ≤ 12) (hk : k < n1) (m0 : w.cell? ⟨b1, o1 + k, none⟩ = some (.int .i64 nn)) (hi' : CV w 31 #[.int .i64 nn, .int .i64 0, .int .i64 (nl - 1)] (.bool false)) : OpOk Try.prog opsTr0 (wordsTr0 b1 o1 b3 k A A2 nl c n1 c1 n2 c2 o t la nn) 66 a w 3 := by
  refine OpOk.gen rfl (fun a1 w1 H => ?_)
  have d2 : a1.eval (.tmp 31) = .pointer (some ⟨b1, o1 + k, none⟩) := H.dep 2 31 rfl (by kernel_rfl)
  refine gd_none ?_
  exact OpW.load d2 (ld3 (H.cell m0)) rfl
set_option maxRecDepth 10000 in
theorem okTr0_4 {b1 o1 b3 k : Nat} {A A2 : Option Addr} {nl c n1 c1 n2 c2 : Nat} {o t la nn : Int} {a : Act} {w : World} (t1 : a.eval (.tmp 1) = .slice (some ⟨b1, o1, none⟩) n1 c1) (t2 : a.eval (.tmp 2) = .slice A2 n2 c2) (t3 : a.eval (.tmp 3) = .pointer (some ⟨b3, 0, none⟩)) (t7 : a.eval (.tmp 7) = .int .i64 la) (t8 : a.eval (.tmp 8) = .int .i64 k) (q0 : w.cell? ⟨b3, 0, none⟩ = some (.int .i64 o)) (q1 : w.cell? ⟨b3, 1, none⟩ = some (.int .i64 t)) (q2 : w.cell? ⟨b3, 2, none⟩ = some (.slice A nl c)) (hnl : nl ≤ 12) (hk : k < n1) (m0 : w.cell? ⟨b1, o1 + k, none⟩ = some (.int .i64 nn)) (hi' : CV w 31 #[.int .i64 nn, .int .i64 0, .int .i64 (nl - 1)] (.bool false)) : OpOk Try.prog opsTr0 (wordsTr0 b1 o1 b3 k A A2 nl c n1 c1 n2 c2 o t la nn) 66 a w 4 := by
  refine OpOk.gen rfl (fun a1 w1 H => ?_)
  have e3 : a1.eval (.tmp 3) = .pointer (some ⟨b3, 0, none⟩) := (H.out 3 (by kernel_rfl)).trans t3
  refine gd_none ?_
  exact OpW.field e3 (fa24_2 _) rfl
set_option maxRecDepth 10000 in
theorem okTr0_5 {b1 o1 b3 k : Nat} {A A2 : Option Addr} {nl c n1 c1 n2 c2 : Nat} {o t la nn : Int} {a : Act} {w : World} (t1 : a.eval (.tmp 1) = .slice (some ⟨b1, o1, none⟩) n1 c1) (t2 : a.eval (.tmp 2) = .slice A2 n2 c2) (t3 : a.eval (.tmp 3) = .pointer (some ⟨b3, 0, none⟩)) (t7 : a.eval (.tmp 7) = .int .i64 la) (t8 : a.eval (.tmp 8) = .int .i64 k) (q0 : w.cell? ⟨b3, 0, none⟩ = some (.int .i64 o)) (q1 : w.cell? ⟨b3, 1, none⟩ = some (.int .i64 t)) (q2 : w.cell? ⟨b3, 2, none⟩ = some (.slice A nl c)) (hnl : nl ≤ 12) (hk : k < n1) (m0 : w.cell? ⟨b1, o1 + k, none⟩ = some (.int .i64 nn)) (hi' : CV w 31 #[.int .i64 nn, .int .i64 0, .int .i64 (nl - 1)] (.bool false)) : OpOk Try.prog opsTr0 (wordsTr0 b1 o1 b3 k A A2 nl c n1 c1 n2 c2 o t la nn) 66 a w 5 := by
  refine OpOk.gen rfl (fun a1 w1 H => ?_)
  have d4 : a1.eval (.tmp 33) = .pointer (some ⟨b3, 2, none⟩) := H.dep 4 33 rfl (by kernel_rfl)
  refine gd_none ?_
  exact OpW.load d4 (ld22 (H.cell q2)) rfl
set_option maxRecDepth 10000 in
theorem okTr0_6 {b1 o1 b3 k : Nat} {A A2 : Option Addr} {nl c n1 c1 n2 c2 : Nat} {o t la nn : Int} {a : Act} {w : World} (t1 : a.eval (.tmp 1) = .slice (some ⟨b1, o1, none⟩) n1 c1) (t2 : a.eval (.tmp 2) = .slice A2 n2 c2) (t3 : a.eval (.tmp 3) = .pointer (some ⟨b3, 0, none⟩)) (t7 : a.eval (.tmp 7) = .int .i64 la) (t8 : a.eval (.tmp 8) = .int .i64 k) (q0 : w.cell? ⟨b3, 0, none⟩ = some (.int .i64 o)) (q1 : w.cell? ⟨b3, 1, none⟩ = some (.int .i64 t)) (q2 : w.cell? ⟨b3, 2, none⟩ = some (.slice A nl c)) (hnl : nl ≤ 12) (hk : k < n1) (m0 : w.cell? ⟨b1, o1 + k, none⟩ = some (.int .i64 nn)) (hi' : CV w 31 #[.int .i64 nn, .int .i64 0, .int .i64 (nl - 1)] (.bool false)) : OpOk Try.prog opsTr0 (wordsTr0 b1 o1 b3 k A A2 nl c n1 c1 n2 c2 o t la nn) 66 a w 6 := by
  refine OpOk.gen rfl (fun a1 w1 H => ?_)
  have d5 : a1.eval (.tmp 34) = .slice A nl c := H.dep 5 34 rfl (by kernel_rfl)
  refine gd_none ?_
  exact OpW.len d5 (ln22 _ _ _ _ _) rfl rfl
set_option maxRecDepth 10000 in
theorem okTr0_7 {b1 o1 b3 k : Nat} {A A2 : Option Addr} {nl c n1 c1 n2 c2 : Nat} {o t la nn : Int} {a : Act} {w : World} (t1 : a.eval (.tmp 1) = .slice (some ⟨b1, o1, none⟩) n1 c1) (t2 : a.eval (.tmp 2) = .slice A2 n2 c2) (t3 : a.eval (.tmp 3) = .pointer (some ⟨b3, 0, none⟩)) (t7 : a.eval (.tmp 7) = .int .i64 la) (t8 : a.eval (.tmp 8) = .int .i64 k) (q0 : w.cell? ⟨b3, 0, none⟩ = some (.int .i64 o)) (q1 : w.cell? ⟨b3, 1, none⟩ = some (.int .i64 t)) (q2 : w.cell? ⟨b3, 2, none⟩ = some (.slice A nl c)) (hnl : nl ≤ 12) (hk : k < n1) (m0 : w.cell? ⟨b1, o1 + k, none⟩ = some (.int .i64 nn)) (hi' : CV w 31 #[.int .i64 nn, .int .i64 0, .int .i64 (nl - 1)] (.bool false)) : OpOk Try.prog opsTr0 (wordsTr0 b1 o1 b3 k A A2 nl c n1 c1 n2 c2 o t la nn) 66 a w 7 := by
  refine OpOk.gen rfl (fun a1 w1 H => ?_)
  have d6 : a1.eval (.tmp 35) = .int .i64 nl := H.dep 6 35 rfl (by kernel_rfl)
  refine gd_none ?_
  exact OpW.bin d6 rfl (sub3 (by omega) (by omega) _) rfl
set_option maxRecDepth 10000 in
theorem okTr0_8 {b1 o1 b3 k : Nat} {A A2 : Option Addr} {nl c n1 c1 n2 c2 : Nat} {o t la nn : Int} {a : Act} {w : World} (t1 : a.eval (.tmp 1) = .slice (some ⟨b1, o1, none⟩) n1 c1) (t2 : a.eval (.tmp 2) = .slice A2 n2 c2) (t3 : a.eval (.tmp 3) = .pointer (some ⟨b3, 0, none⟩)) (t7 : a.eval (.tmp 7) = .int .i64 la) (t8 : a.eval (.tmp 8) = .int .i64 k) (q0 : w.cell? ⟨b3, 0, none⟩ = some (.int .i64 o)) (q1 : w.cell? ⟨b3, 1, none⟩ = some (.int .i64 t)) (q2 : w.cell? ⟨b3, 2, none⟩ = some (.slice A nl c)) (hnl : nl ≤ 12) (hk : k < n1) (m0 : w.cell? ⟨b1, o1 + k, none⟩ = some (.int .i64 nn)) (hi' : CV w 31 #[.int .i64 nn, .int .i64 0, .int .i64 (nl - 1)] (.bool false)) : OpOk Try.prog opsTr0 (wordsTr0 b1 o1 b3 k A A2 nl c n1 c1 n2 c2 o t la nn) 66 a w 8 := by
  refine OpOk.gen rfl (fun a1 w1 H => ?_)
  have d3 : a1.eval (.tmp 32) = .int .i64 nn := H.dep 3 32 rfl (by kernel_rfl)
  have d7 : a1.eval (.tmp 36) = .int .i64 (nl - 1) := H.dep 7 36 rfl (by kernel_rfl)
  refine gd_none ?_
  exact OpW.call (vs := #[.int .i64 nn, .int .i64 0, .int .i64 (nl - 1)]) (enters_of Try.func31 (by kernel_rfl) rfl) (by simp [ev_const, d3, d7]) (hi' w1 H.low)
set_option maxRecDepth 10000 in
theorem okTr0_9 {b1 o1 b3 k : Nat} {A A2 : Option Addr} {nl c n1 c1 n2 c2 : Nat} {o t la nn : Int} {a : Act} {w : World} (t1 : a.eval (.tmp 1) = .slice (some ⟨b1, o1, none⟩) n1 c1) (t2 : a.eval (.tmp 2) = .slice A2 n2 c2) (t3 : a.eval (.tmp 3) = .pointer (some ⟨b3, 0, none⟩)) (t7 : a.eval (.tmp 7) = .int .i64 la) (t8 : a.eval (.tmp 8) = .int .i64 k) (q0 : w.cell? ⟨b3, 0, none⟩ = some (.int .i64 o)) (q1 : w.cell? ⟨b3, 1, none⟩ = some (.int .i64 t)) (q2 : w.cell? ⟨b3, 2, none⟩ = some (.slice A nl c)) (hnl : nl ≤ 12) (hk : k < n1) (m0 : w.cell? ⟨b1, o1 + k, none⟩ = some (.int .i64 nn)) (hi' : CV w 31 #[.int .i64 nn, .int .i64 0, .int .i64 (nl - 1)] (.bool false)) : OpOk Try.prog opsTr0 (wordsTr0 b1 o1 b3 k A A2 nl c n1 c1 n2 c2 o t la nn) 66 a w 9 := by
  refine OpOk.gen rfl (fun a1 w1 H => ?_)
  have d8 : a1.eval (.tmp 37) = .bool false := H.dep 8 37 rfl (by kernel_rfl)
  refine gd_none ?_
  exact OpW.un d8 (not4 _ _) rfl
set_option maxRecDepth 10000 in
theorem okTr0_10 {b1 o1 b3 k : Nat} {A A2 : Option Addr} {nl c n1 c1 n2 c2 : Nat} {o t la nn : Int} {a : Act} {w : World} (t1 : a.eval (.tmp 1) = .slice (some ⟨b1, o1, none⟩) n1 c1) (t2 : a.eval (.tmp 2) = .slice A2 n2 c2) (t3 : a.eval (.tmp 3) = .pointer (some ⟨b3, 0, none⟩)) (t7 : a.eval (.tmp 7) = .int .i64 la) (t8 : a.eval (.tmp 8) = .int .i64 k) (q0 : w.cell? ⟨b3, 0, none⟩ = some (.int .i64 o)) (q1 : w.cell? ⟨b3, 1, none⟩ = some (.int .i64 t)) (q2 : w.cell? ⟨b3, 2, none⟩ = some (.slice A nl c)) (hnl : nl ≤ 12) (hk : k < n1) (m0 : w.cell? ⟨b1, o1 + k, none⟩ = some (.int .i64 nn)) (hi' : CV w 31 #[.int .i64 nn, .int .i64 0, .int .i64 (nl - 1)] (.bool false)) : OpOk Try.prog opsTr0 (wordsTr0 b1 o1 b3 k A A2 nl c n1 c1 n2 c2 o t la nn) 66 a w 10 := by
  refine OpOk.gen rfl (fun a1 w1 H => ?_)
  have d9 : a1.eval (.tmp 38) = .bool true := H.dep 9 38 rfl (by kernel_rfl)
  refine gd_none ?_
  exact OpW.move d9 rfl
set_option maxRecDepth 10000 in
theorem okTr0_11 {b1 o1 b3 k : Nat} {A A2 : Option Addr} {nl c n1 c1 n2 c2 : Nat} {o t la nn : Int} {a : Act} {w : World} (t1 : a.eval (.tmp 1) = .slice (some ⟨b1, o1, none⟩) n1 c1) (t2 : a.eval (.tmp 2) = .slice A2 n2 c2) (t3 : a.eval (.tmp 3) = .pointer (some ⟨b3, 0, none⟩)) (t7 : a.eval (.tmp 7) = .int .i64 la) (t8 : a.eval (.tmp 8) = .int .i64 k) (q0 : w.cell? ⟨b3, 0, none⟩ = some (.int .i64 o)) (q1 : w.cell? ⟨b3, 1, none⟩ = some (.int .i64 t)) (q2 : w.cell? ⟨b3, 2, none⟩ = some (.slice A nl c)) (hnl : nl ≤ 12) (hk : k < n1) (m0 : w.cell? ⟨b1, o1 + k, none⟩ = some (.int .i64 nn)) (hi' : CV w 31 #[.int .i64 nn, .int .i64 0, .int .i64 (nl - 1)] (.bool false)) : OpOk Try.prog opsTr0 (wordsTr0 b1 o1 b3 k A A2 nl c n1 c1 n2 c2 o t la nn) 66 a w 11 := by
  refine OpOk.gen rfl (fun a1 w1 H => ?_)
  have d10 : a1.eval (.tmp 39) = .bool true := H.dep 10 39 rfl (by kernel_rfl)
  refine gd_false rfl d10 (by decide) ?_
  trivial
set_option maxRecDepth 10000 in
theorem okTr0_12 {b1 o1 b3 k : Nat} {A A2 : Option Addr} {nl c n1 c1 n2 c2 : Nat} {o t la nn : Int} {a : Act} {w : World} (t1 : a.eval (.tmp 1) = .slice (some ⟨b1, o1, none⟩) n1 c1) (t2 : a.eval (.tmp 2) = .slice A2 n2 c2) (t3 : a.eval (.tmp 3) = .pointer (some ⟨b3, 0, none⟩)) (t7 : a.eval (.tmp 7) = .int .i64 la) (t8 : a.eval (.tmp 8) = .int .i64 k) (q0 : w.cell? ⟨b3, 0, none⟩ = some (.int .i64 o)) (q1 : w.cell? ⟨b3, 1, none⟩ = some (.int .i64 t)) (q2 : w.cell? ⟨b3, 2, none⟩ = some (.slice A nl c)) (hnl : nl ≤ 12) (hk : k < n1) (m0 : w.cell? ⟨b1, o1 + k, none⟩ = some (.int .i64 nn)) (hi' : CV w 31 #[.int .i64 nn, .int .i64 0, .int .i64 (nl - 1)] (.bool false)) : OpOk Try.prog opsTr0 (wordsTr0 b1 o1 b3 k A A2 nl c n1 c1 n2 c2 o t la nn) 66 a w 12 := by
  refine OpOk.gen rfl (fun a1 w1 H => ?_)
  have d10 : a1.eval (.tmp 39) = .bool true := H.dep 10 39 rfl (by kernel_rfl)
  refine gd_false rfl d10 (by decide) ?_
  trivial
set_option maxRecDepth 10000 in
theorem okTr0_13 {b1 o1 b3 k : Nat} {A A2 : Option Addr} {nl c n1 c1 n2 c2 : Nat} {o t la nn : Int} {a : Act} {w : World} (t1 : a.eval (.tmp 1) = .slice (some ⟨b1, o1, none⟩) n1 c1) (t2 : a.eval (.tmp 2) = .slice A2 n2 c2) (t3 : a.eval (.tmp 3) = .pointer (some ⟨b3, 0, none⟩)) (t7 : a.eval (.tmp 7) = .int .i64 la) (t8 : a.eval (.tmp 8) = .int .i64 k) (q0 : w.cell? ⟨b3, 0, none⟩ = some (.int .i64 o)) (q1 : w.cell? ⟨b3, 1, none⟩ = some (.int .i64 t)) (q2 : w.cell? ⟨b3, 2, none⟩ = some (.slice A nl c)) (hnl : nl ≤ 12) (hk : k < n1) (m0 : w.cell? ⟨b1, o1 + k, none⟩ = some (.int .i64 nn)) (hi' : CV w 31 #[.int .i64 nn, .int .i64 0, .int .i64 (nl - 1)] (.bool false)) : OpOk Try.prog opsTr0 (wordsTr0 b1 o1 b3 k A A2 nl c n1 c1 n2 c2 o t la nn) 66 a w 13 := by
  refine OpOk.gen rfl (fun a1 w1 H => ?_)
  have d10 : a1.eval (.tmp 39) = .bool true := H.dep 10 39 rfl (by kernel_rfl)
  refine gd_false rfl d10 (by decide) ?_
  trivial
set_option maxRecDepth 10000 in
theorem okTr0_14 {b1 o1 b3 k : Nat} {A A2 : Option Addr} {nl c n1 c1 n2 c2 : Nat} {o t la nn : Int} {a : Act} {w : World} (t1 : a.eval (.tmp 1) = .slice (some ⟨b1, o1, none⟩) n1 c1) (t2 : a.eval (.tmp 2) = .slice A2 n2 c2) (t3 : a.eval (.tmp 3) = .pointer (some ⟨b3, 0, none⟩)) (t7 : a.eval (.tmp 7) = .int .i64 la) (t8 : a.eval (.tmp 8) = .int .i64 k) (q0 : w.cell? ⟨b3, 0, none⟩ = some (.int .i64 o)) (q1 : w.cell? ⟨b3, 1, none⟩ = some (.int .i64 t)) (q2 : w.cell? ⟨b3, 2, none⟩ = some (.slice A nl c)) (hnl : nl ≤ 12) (hk : k < n1) (m0 : w.cell? ⟨b1, o1 + k, none⟩ = some (.int .i64 nn)) (hi' : CV w 31 #[.int .i64 nn, .int .i64 0, .int .i64 (nl - 1)] (.bool false)) : OpOk Try.prog opsTr0 (wordsTr0 b1 o1 b3 k A A2 nl c n1 c1 n2 c2 o t la nn) 66 a w 14 := by
  refine OpOk.gen rfl (fun a1 w1 H => ?_)
  have d10 : a1.eval (.tmp 39) = .bool true := H.dep 10 39 rfl (by kernel_rfl)
  refine gd_false rfl d10 (by decide) ?_
  trivial
set_option maxRecDepth 10000 in
theorem okTr0_15 {b1 o1 b3 k : Nat} {A A2 : Option Addr} {nl c n1 c1 n2 c2 : Nat} {o t la nn : Int} {a : Act} {w : World} (t1 : a.eval (.tmp 1) = .slice (some ⟨b1, o1, none⟩) n1 c1) (t2 : a.eval (.tmp 2) = .slice A2 n2 c2) (t3 : a.eval (.tmp 3) = .pointer (some ⟨b3, 0, none⟩)) (t7 : a.eval (.tmp 7) = .int .i64 la) (t8 : a.eval (.tmp 8) = .int .i64 k) (q0 : w.cell? ⟨b3, 0, none⟩ = some (.int .i64 o)) (q1 : w.cell? ⟨b3, 1, none⟩ = some (.int .i64 t)) (q2 : w.cell? ⟨b3, 2, none⟩ = some (.slice A nl c)) (hnl : nl ≤ 12) (hk : k < n1) (m0 : w.cell? ⟨b1, o1 + k, none⟩ = some (.int .i64 nn)) (hi' : CV w 31 #[.int .i64 nn, .int .i64 0, .int .i64 (nl - 1)] (.bool false)) : OpOk Try.prog opsTr0 (wordsTr0 b1 o1 b3 k A A2 nl c n1 c1 n2 c2 o t la nn) 66 a w 15 := by
  refine OpOk.gen rfl (fun a1 w1 H => ?_)
  have d10 : a1.eval (.tmp 39) = .bool true := H.dep 10 39 rfl (by kernel_rfl)
  refine gd_false rfl d10 (by decide) ?_
  trivial
set_option maxRecDepth 10000 in
theorem okTr0_16 {b1 o1 b3 k : Nat} {A A2 : Option Addr} {nl c n1 c1 n2 c2 : Nat} {o t la nn : Int} {a : Act} {w : World} (t1 : a.eval (.tmp 1) = .slice (some ⟨b1, o1, none⟩) n1 c1) (t2 : a.eval (.tmp 2) = .slice A2 n2 c2) (t3 : a.eval (.tmp 3) = .pointer (some ⟨b3, 0, none⟩)) (t7 : a.eval (.tmp 7) = .int .i64 la) (t8 : a.eval (.tmp 8) = .int .i64 k) (q0 : w.cell? ⟨b3, 0, none⟩ = some (.int .i64 o)) (q1 : w.cell? ⟨b3, 1, none⟩ = some (.int .i64 t)) (q2 : w.cell? ⟨b3, 2, none⟩ = some (.slice A nl c)) (hnl : nl ≤ 12) (hk : k < n1) (m0 : w.cell? ⟨b1, o1 + k, none⟩ = some (.int .i64 nn)) (hi' : CV w 31 #[.int .i64 nn, .int .i64 0, .int .i64 (nl - 1)] (.bool false)) : OpOk Try.prog opsTr0 (wordsTr0 b1 o1 b3 k A A2 nl c n1 c1 n2 c2 o t la nn) 66 a w 16 := by
  refine OpOk.gen rfl (fun a1 w1 H => ?_)
  have d10 : a1.eval (.tmp 39) = .bool true := H.dep 10 39 rfl (by kernel_rfl)
  refine gd_false rfl d10 (by decide) ?_
  trivial
set_option maxRecDepth 10000 in
theorem okTr0_17 {b1 o1 b3 k : Nat} {A A2 : Option Addr} {nl c n1 c1 n2 c2 : Nat} {o t la nn : Int} {a : Act} {w : World} (t1 : a.eval (.tmp 1) = .slice (some ⟨b1, o1, none⟩) n1 c1) (t2 : a.eval (.tmp 2) = .slice A2 n2 c2) (t3 : a.eval (.tmp 3) = .pointer (some ⟨b3, 0, none⟩)) (t7 : a.eval (.tmp 7) = .int .i64 la) (t8 : a.eval (.tmp 8) = .int .i64 k) (q0 : w.cell? ⟨b3, 0, none⟩ = some (.int .i64 o)) (q1 : w.cell? ⟨b3, 1, none⟩ = some (.int .i64 t)) (q2 : w.cell? ⟨b3, 2, none⟩ = some (.slice A nl c)) (hnl : nl ≤ 12) (hk : k < n1) (m0 : w.cell? ⟨b1, o1 + k, none⟩ = some (.int .i64 nn)) (hi' : CV w 31 #[.int .i64 nn, .int .i64 0, .int .i64 (nl - 1)] (.bool false)) : OpOk Try.prog opsTr0 (wordsTr0 b1 o1 b3 k A A2 nl c n1 c1 n2 c2 o t la nn) 66 a w 17 := by
  refine OpOk.gen rfl (fun a1 w1 H => ?_)
  have d10 : a1.eval (.tmp 39) = .bool true := H.dep 10 39 rfl (by kernel_rfl)
  refine gd_false rfl d10 (by decide) ?_
  trivial
set_option maxRecDepth 10000 in
theorem okTr0_18 {b1 o1 b3 k : Nat} {A A2 : Option Addr} {nl c n1 c1 n2 c2 : Nat} {o t la nn : Int} {a : Act} {w : World} (t1 : a.eval (.tmp 1) = .slice (some ⟨b1, o1, none⟩) n1 c1) (t2 : a.eval (.tmp 2) = .slice A2 n2 c2) (t3 : a.eval (.tmp 3) = .pointer (some ⟨b3, 0, none⟩)) (t7 : a.eval (.tmp 7) = .int .i64 la) (t8 : a.eval (.tmp 8) = .int .i64 k) (q0 : w.cell? ⟨b3, 0, none⟩ = some (.int .i64 o)) (q1 : w.cell? ⟨b3, 1, none⟩ = some (.int .i64 t)) (q2 : w.cell? ⟨b3, 2, none⟩ = some (.slice A nl c)) (hnl : nl ≤ 12) (hk : k < n1) (m0 : w.cell? ⟨b1, o1 + k, none⟩ = some (.int .i64 nn)) (hi' : CV w 31 #[.int .i64 nn, .int .i64 0, .int .i64 (nl - 1)] (.bool false)) : OpOk Try.prog opsTr0 (wordsTr0 b1 o1 b3 k A A2 nl c n1 c1 n2 c2 o t la nn) 66 a w 18 := by
  refine OpOk.gen rfl (fun a1 w1 H => ?_)
  have d10 : a1.eval (.tmp 39) = .bool true := H.dep 10 39 rfl (by kernel_rfl)
  refine gd_false rfl d10 (by decide) ?_
  trivial
set_option maxRecDepth 10000 in
theorem okTr0_19 {b1 o1 b3 k : Nat} {A A2 : Option Addr} {nl c n1 c1 n2 c2 : Nat} {o t la nn : Int} {a : Act} {w : World} (t1 : a.eval (.tmp 1) = .slice (some ⟨b1, o1, none⟩) n1 c1) (t2 : a.eval (.tmp 2) = .slice A2 n2 c2) (t3 : a.eval (.tmp 3) = .pointer (some ⟨b3, 0, none⟩)) (t7 : a.eval (.tmp 7) = .int .i64 la) (t8 : a.eval (.tmp 8) = .int .i64 k) (q0 : w.cell? ⟨b3, 0, none⟩ = some (.int .i64 o)) (q1 : w.cell? ⟨b3, 1, none⟩ = some (.int .i64 t)) (q2 : w.cell? ⟨b3, 2, none⟩ = some (.slice A nl c)) (hnl : nl ≤ 12) (hk : k < n1) (m0 : w.cell? ⟨b1, o1 + k, none⟩ = some (.int .i64 nn)) (hi' : CV w 31 #[.int .i64 nn, .int .i64 0, .int .i64 (nl - 1)] (.bool false)) : OpOk Try.prog opsTr0 (wordsTr0 b1 o1 b3 k A A2 nl c n1 c1 n2 c2 o t la nn) 66 a w 19 := by
  refine OpOk.gen rfl (fun a1 w1 H => ?_)
  have d10 : a1.eval (.tmp 39) = .bool true := H.dep 10 39 rfl (by kernel_rfl)
  refine gd_false rfl d10 (by decide) ?_
  trivial
set_option maxRecDepth 10000 in
theorem okTr0_20 {b1 o1 b3 k : Nat} {A A2 : Option Addr} {nl c n1 c1 n2 c2 : Nat} {o t la nn : Int} {a : Act} {w : World} (t1 : a.eval (.tmp 1) = .slice (some ⟨b1, o1, none⟩) n1 c1) (t2 : a.eval (.tmp 2) = .slice A2 n2 c2) (t3 : a.eval (.tmp 3) = .pointer (some ⟨b3, 0, none⟩)) (t7 : a.eval (.tmp 7) = .int .i64 la) (t8 : a.eval (.tmp 8) = .int .i64 k) (q0 : w.cell? ⟨b3, 0, none⟩ = some (.int .i64 o)) (q1 : w.cell? ⟨b3, 1, none⟩ = some (.int .i64 t)) (q2 : w.cell? ⟨b3, 2, none⟩ = some (.slice A nl c)) (hnl : nl ≤ 12) (hk : k < n1) (m0 : w.cell? ⟨b1, o1 + k, none⟩ = some (.int .i64 nn)) (hi' : CV w 31 #[.int .i64 nn, .int .i64 0, .int .i64 (nl - 1)] (.bool false)) : OpOk Try.prog opsTr0 (wordsTr0 b1 o1 b3 k A A2 nl c n1 c1 n2 c2 o t la nn) 66 a w 20 := by
  refine OpOk.gen rfl (fun a1 w1 H => ?_)
  have d10 : a1.eval (.tmp 39) = .bool true := H.dep 10 39 rfl (by kernel_rfl)
  refine gd_false rfl d10 (by decide) ?_
  trivial
set_option maxRecDepth 10000 in
theorem okTr0_21 {b1 o1 b3 k : Nat} {A A2 : Option Addr} {nl c n1 c1 n2 c2 : Nat} {o t la nn : Int} {a : Act} {w : World} (t1 : a.eval (.tmp 1) = .slice (some ⟨b1, o1, none⟩) n1 c1) (t2 : a.eval (.tmp 2) = .slice A2 n2 c2) (t3 : a.eval (.tmp 3) = .pointer (some ⟨b3, 0, none⟩)) (t7 : a.eval (.tmp 7) = .int .i64 la) (t8 : a.eval (.tmp 8) = .int .i64 k) (q0 : w.cell? ⟨b3, 0, none⟩ = some (.int .i64 o)) (q1 : w.cell? ⟨b3, 1, none⟩ = some (.int .i64 t)) (q2 : w.cell? ⟨b3, 2, none⟩ = some (.slice A nl c)) (hnl : nl ≤ 12) (hk : k < n1) (m0 : w.cell? ⟨b1, o1 + k, none⟩ = some (.int .i64 nn)) (hi' : CV w 31 #[.int .i64 nn, .int .i64 0, .int .i64 (nl - 1)] (.bool false)) : OpOk Try.prog opsTr0 (wordsTr0 b1 o1 b3 k A A2 nl c n1 c1 n2 c2 o t la nn) 66 a w 21 := by
  refine OpOk.gen rfl (fun a1 w1 H => ?_)
  have d10 : a1.eval (.tmp 39) = .bool true := H.dep 10 39 rfl (by kernel_rfl)
  refine gd_false rfl d10 (by decide) ?_
  trivial
set_option maxRecDepth 10000 in
theorem okTr0_22 {b1 o1 b3 k : Nat} {A A2 : Option Addr} {nl c n1 c1 n2 c2 : Nat} {o t la nn : Int} {a : Act} {w : World} (t1 : a.eval (.tmp 1) = .slice (some ⟨b1, o1, none⟩) n1 c1) (t2 : a.eval (.tmp 2) = .slice A2 n2 c2) (t3 : a.eval (.tmp 3) = .pointer (some ⟨b3, 0, none⟩)) (t7 : a.eval (.tmp 7) = .int .i64 la) (t8 : a.eval (.tmp 8) = .int .i64 k) (q0 : w.cell? ⟨b3, 0, none⟩ = some (.int .i64 o)) (q1 : w.cell? ⟨b3, 1, none⟩ = some (.int .i64 t)) (q2 : w.cell? ⟨b3, 2, none⟩ = some (.slice A nl c)) (hnl : nl ≤ 12) (hk : k < n1) (m0 : w.cell? ⟨b1, o1 + k, none⟩ = some (.int .i64 nn)) (hi' : CV w 31 #[.int .i64 nn, .int .i64 0, .int .i64 (nl - 1)] (.bool false)) : OpOk Try.prog opsTr0 (wordsTr0 b1 o1 b3 k A A2 nl c n1 c1 n2 c2 o t la nn) 66 a w 22 := by
  refine OpOk.gen rfl (fun a1 w1 H => ?_)
  have d10 : a1.eval (.tmp 39) = .bool true := H.dep 10 39 rfl (by kernel_rfl)
  refine gd_false rfl d10 (by decide) ?_
  trivial
set_option maxRecDepth 10000 in
theorem okTr0_23 {b1 o1 b3 k : Nat} {A A2 : Option Addr} {nl c n1 c1 n2 c2 : Nat} {o t la nn : Int} {a : Act} {w : World} (t1 : a.eval (.tmp 1) = .slice (some ⟨b1, o1, none⟩) n1 c1) (t2 : a.eval (.tmp 2) = .slice A2 n2 c2) (t3 : a.eval (.tmp 3) = .pointer (some ⟨b3, 0, none⟩)) (t7 : a.eval (.tmp 7) = .int .i64 la) (t8 : a.eval (.tmp 8) = .int .i64 k) (q0 : w.cell? ⟨b3, 0, none⟩ = some (.int .i64 o)) (q1 : w.cell? ⟨b3, 1, none⟩ = some (.int .i64 t)) (q2 : w.cell? ⟨b3, 2, none⟩ = some (.slice A nl c)) (hnl : nl ≤ 12) (hk : k < n1) (m0 : w.cell? ⟨b1, o1 + k, none⟩ = some (.int .i64 nn)) (hi' : CV w 31 #[.int .i64 nn, .int .i64 0, .int .i64 (nl - 1)] (.bool false)) : OpOk Try.prog opsTr0 (wordsTr0 b1 o1 b3 k A A2 nl c n1 c1 n2 c2 o t la nn) 66 a w 23 := by
  refine OpOk.gen rfl (fun a1 w1 H => ?_)
  have d10 : a1.eval (.tmp 39) = .bool true := H.dep 10 39 rfl (by kernel_rfl)
  refine gd_false rfl d10 (by decide) ?_
  trivial
set_option maxRecDepth 10000 in
theorem okTr0_24 {b1 o1 b3 k : Nat} {A A2 : Option Addr} {nl c n1 c1 n2 c2 : Nat} {o t la nn : Int} {a : Act} {w : World} (t1 : a.eval (.tmp 1) = .slice (some ⟨b1, o1, none⟩) n1 c1) (t2 : a.eval (.tmp 2) = .slice A2 n2 c2) (t3 : a.eval (.tmp 3) = .pointer (some ⟨b3, 0, none⟩)) (t7 : a.eval (.tmp 7) = .int .i64 la) (t8 : a.eval (.tmp 8) = .int .i64 k) (q0 : w.cell? ⟨b3, 0, none⟩ = some (.int .i64 o)) (q1 : w.cell? ⟨b3, 1, none⟩ = some (.int .i64 t)) (q2 : w.cell? ⟨b3, 2, none⟩ = some (.slice A nl c)) (hnl : nl ≤ 12) (hk : k < n1) (m0 : w.cell? ⟨b1, o1 + k, none⟩ = some (.int .i64 nn)) (hi' : CV w 31 #[.int .i64 nn, .int .i64 0, .int .i64 (nl - 1)] (.bool false)) : OpOk Try.prog opsTr0 (wordsTr0 b1 o1 b3 k A A2 nl c n1 c1 n2 c2 o t la nn) 66 a w 24 := by
  refine OpOk.gen rfl (fun a1 w1 H => ?_)
  have d10 : a1.eval (.tmp 39) = .bool true := H.dep 10 39 rfl (by kernel_rfl)
  refine gd_false rfl d10 (by decide) ?_
  trivial
set_option maxRecDepth 10000 in
theorem okTr0_25 {b1 o1 b3 k : Nat} {A A2 : Option Addr} {nl c n1 c1 n2 c2 : Nat} {o t la nn : Int} {a : Act} {w : World} (t1 : a.eval (.tmp 1) = .slice (some ⟨b1, o1, none⟩) n1 c1) (t2 : a.eval (.tmp 2) = .slice A2 n2 c2) (t3 : a.eval (.tmp 3) = .pointer (some ⟨b3, 0, none⟩)) (t7 : a.eval (.tmp 7) = .int .i64 la) (t8 : a.eval (.tmp 8) = .int .i64 k) (q0 : w.cell? ⟨b3, 0, none⟩ = some (.int .i64 o)) (q1 : w.cell? ⟨b3, 1, none⟩ = some (.int .i64 t)) (q2 : w.cell? ⟨b3, 2, none⟩ = some (.slice A nl c)) (hnl : nl ≤ 12) (hk : k < n1) (m0 : w.cell? ⟨b1, o1 + k, none⟩ = some (.int .i64 nn)) (hi' : CV w 31 #[.int .i64 nn, .int .i64 0, .int .i64 (nl - 1)] (.bool false)) : OpOk Try.prog opsTr0 (wordsTr0 b1 o1 b3 k A A2 nl c n1 c1 n2 c2 o t la nn) 66 a w 25 := by
  refine OpOk.gen rfl (fun a1 w1 H => ?_)
  have d10 : a1.eval (.tmp 39) = .bool true := H.dep 10 39 rfl (by kernel_rfl)
  refine gd_false rfl d10 (by decide) ?_
  trivial
set_option maxRecDepth 10000 in
theorem okTr0_26 {b1 o1 b3 k : Nat} {A A2 : Option Addr} {nl c n1 c1 n2 c2 : Nat} {o t la nn : Int} {a : Act} {w : World} (t1 : a.eval (.tmp 1) = .slice (some ⟨b1, o1, none⟩) n1 c1) (t2 : a.eval (.tmp 2) = .slice A2 n2 c2) (t3 : a.eval (.tmp 3) = .pointer (some ⟨b3, 0, none⟩)) (t7 : a.eval (.tmp 7) = .int .i64 la) (t8 : a.eval (.tmp 8) = .int .i64 k) (q0 : w.cell? ⟨b3, 0, none⟩ = some (.int .i64 o)) (q1 : w.cell? ⟨b3, 1, none⟩ = some (.int .i64 t)) (q2 : w.cell? ⟨b3, 2, none⟩ = some (.slice A nl c)) (hnl : nl ≤ 12) (hk : k < n1) (m0 : w.cell? ⟨b1, o1 + k, none⟩ = some (.int .i64 nn)) (hi' : CV w 31 #[.int .i64 nn, .int .i64 0, .int .i64 (nl - 1)] (.bool false)) : OpOk Try.prog opsTr0 (wordsTr0 b1 o1 b3 k A A2 nl c n1 c1 n2 c2 o t la nn) 66 a w 26 := by
  refine OpOk.gen rfl (fun a1 w1 H => ?_)
  have d10 : a1.eval (.tmp 39) = .bool true := H.dep 10 39 rfl (by kernel_rfl)
  refine gd_false rfl d10 (by decide) ?_
  trivial
set_option maxRecDepth 10000 in
theorem okTr0_27 {b1 o1 b3 k : Nat} {A A2 : Option Addr} {nl c n1 c1 n2 c2 : Nat} {o t la nn : Int} {a : Act} {w : World} (t1 : a.eval (.tmp 1) = .slice (some ⟨b1, o1, none⟩) n1 c1) (t2 : a.eval (.tmp 2) = .slice A2 n2 c2) (t3 : a.eval (.tmp 3) = .pointer (some ⟨b3, 0, none⟩)) (t7 : a.eval (.tmp 7) = .int .i64 la) (t8 : a.eval (.tmp 8) = .int .i64 k) (q0 : w.cell? ⟨b3, 0, none⟩ = some (.int .i64 o)) (q1 : w.cell? ⟨b3, 1, none⟩ = some (.int .i64 t)) (q2 : w.cell? ⟨b3, 2, none⟩ = some (.slice A nl c)) (hnl : nl ≤ 12) (hk : k < n1) (m0 : w.cell? ⟨b1, o1 + k, none⟩ = some (.int .i64 nn)) (hi' : CV w 31 #[.int .i64 nn, .int .i64 0, .int .i64 (nl - 1)] (.bool false)) : OpOk Try.prog opsTr0 (wordsTr0 b1 o1 b3 k A A2 nl c n1 c1 n2 c2 o t la nn) 66 a w 27 := by
  refine OpOk.gen rfl (fun a1 w1 H => ?_)
  have d10 : a1.eval (.tmp 39) = .bool true := H.dep 10 39 rfl (by kernel_rfl)
  refine gd_false rfl d10 (by decide) ?_
  trivial
set_option maxRecDepth 10000 in
theorem okTr0_28 {b1 o1 b3 k : Nat} {A A2 : Option Addr} {nl c n1 c1 n2 c2 : Nat} {o t la nn : Int} {a : Act} {w : World} (t1 : a.eval (.tmp 1) = .slice (some ⟨b1, o1, none⟩) n1 c1) (t2 : a.eval (.tmp 2) = .slice A2 n2 c2) (t3 : a.eval (.tmp 3) = .pointer (some ⟨b3, 0, none⟩)) (t7 : a.eval (.tmp 7) = .int .i64 la) (t8 : a.eval (.tmp 8) = .int .i64 k) (q0 : w.cell? ⟨b3, 0, none⟩ = some (.int .i64 o)) (q1 : w.cell? ⟨b3, 1, none⟩ = some (.int .i64 t)) (q2 : w.cell? ⟨b3, 2, none⟩ = some (.slice A nl c)) (hnl : nl ≤ 12) (hk : k < n1) (m0 : w.cell? ⟨b1, o1 + k, none⟩ = some (.int .i64 nn)) (hi' : CV w 31 #[.int .i64 nn, .int .i64 0, .int .i64 (nl - 1)] (.bool false)) : OpOk Try.prog opsTr0 (wordsTr0 b1 o1 b3 k A A2 nl c n1 c1 n2 c2 o t la nn) 66 a w 28 := by
  refine OpOk.gen rfl (fun a1 w1 H => ?_)
  have d10 : a1.eval (.tmp 39) = .bool true := H.dep 10 39 rfl (by kernel_rfl)
  refine gd_false rfl d10 (by decide) ?_
  trivial
set_option maxRecDepth 10000 in
theorem okTr0_29 {b1 o1 b3 k : Nat} {A A2 : Option Addr} {nl c n1 c1 n2 c2 : Nat} {o t la nn : Int} {a : Act} {w : World} (t1 : a.eval (.tmp 1) = .slice (some ⟨b1, o1, none⟩) n1 c1) (t2 : a.eval (.tmp 2) = .slice A2 n2 c2) (t3 : a.eval (.tmp 3) = .pointer (some ⟨b3, 0, none⟩)) (t7 : a.eval (.tmp 7) = .int .i64 la) (t8 : a.eval (.tmp 8) = .int .i64 k) (q0 : w.cell? ⟨b3, 0, none⟩ = some (.int .i64 o)) (q1 : w.cell? ⟨b3, 1, none⟩ = some (.int .i64 t)) (q2 : w.cell? ⟨b3, 2, none⟩ = some (.slice A nl c)) (hnl : nl ≤ 12) (hk : k < n1) (m0 : w.cell? ⟨b1, o1 + k, none⟩ = some (.int .i64 nn)) (hi' : CV w 31 #[.int .i64 nn, .int .i64 0, .int .i64 (nl - 1)] (.bool false)) : OpOk Try.prog opsTr0 (wordsTr0 b1 o1 b3 k A A2 nl c n1 c1 n2 c2 o t la nn) 66 a w 29 := by
  refine OpOk.gen rfl (fun a1 w1 H => ?_)
  have d10 : a1.eval (.tmp 39) = .bool true := H.dep 10 39 rfl (by kernel_rfl)
  refine gd_none ?_
  exact OpW.pick (b := true) d10 rfl
set_option maxRecDepth 10000 in
theorem regionTr0 {F : Fence} {n : Nat} (hF : WideF F Try.prog) {Q : Exit → Act → World → Prop} {b1 o1 b3 k : Nat} {A A2 : Option Addr} {nl c n1 c1 n2 c2 : Nat} {o t la nn : Int} {a : Act} {w : World} (hsz : a.tmps.size = 66)
    (t1 : a.eval (.tmp 1) = .slice (some ⟨b1, o1, none⟩) n1 c1) (t2 : a.eval (.tmp 2) = .slice A2 n2 c2) (t3 : a.eval (.tmp 3) = .pointer (some ⟨b3, 0, none⟩)) (t7 : a.eval (.tmp 7) = .int .i64 la) (t8 : a.eval (.tmp 8) = .int .i64 k) (q0 : w.cell? ⟨b3, 0, none⟩ = some (.int .i64 o)) (q1 : w.cell? ⟨b3, 1, none⟩ = some (.int .i64 t)) (q2 : w.cell? ⟨b3, 2, none⟩ = some (.slice A nl c)) (hnl : nl ≤ 12) (hk : k < n1) (m0 : w.cell? ⟨b1, o1 + k, none⟩ = some (.int .i64 nn)) (hi' : CV w 31 #[.int .i64 nn, .int .i64 0, .int .i64 (nl - 1)] (.bool false))
    (hK : ∀ (a' : Act) (w' : World), a'.tmps.size = 66 → a'.defers = a.defers → Below w.heap.size w w' → (∀ e, ndstB opsTr0 e = true → a'.eval (.tmp e) = a.eval (.tmp e)) → (∀ (j d : Nat), (opsTr0[j]?).bind (·.dst) = some d → (wordsTr0 b1 o1 b3 k A A2 nl c n1 c1 n2 c2 o t la nn).at_ j (a'.eval (.tmp d)) w') → Q .normal a' w') :
    (Code.region 7 opsTr0 true).wpIn F n Try.prog Q a w := by
  refine region_S (wordsTr0 b1 o1 b3 k A A2 nl c n1 c1 n2 c2 o t la nn) 66 hF (by kernel_rfl) Try.mixed (by kernel_rfl) (by kernel_rfl) ?_ hsz 30 (by kernel_rfl) ?_ hK
  · exact ⟨(fun _ _ _ h _ => h), (fun _ _ _ h _ => h), (fun _ _ _ h _ => h), (fun _ _ _ h _ => h), (fun _ _ _ h _ => h), (fun _ _ _ h _ => h), (fun _ _ _ h _ => h), (fun _ _ _ h _ => h), (fun _ _ _ h _ => h), (fun _ _ _ h _ => h), (fun _ _ _ h _ => h), (fun _ _ _ _ _ => trivial), (fun _ _ _ _ _ => trivial), (fun _ _ _ _ _ => trivial), (fun _ _ _ _ _ => trivial), (fun _ _ _ _ _ => trivial), (fun _ _ _ _ _ => trivial), (fun _ _ _ _ _ => trivial), (fun _ _ _ _ _ => trivial), (fun _ _ _ _ _ => trivial), (fun _ _ _ _ _ => trivial), (fun _ _ _ _ _ => trivial), (fun _ _ _ _ _ => trivial), (fun _ _ _ _ _ => trivial), (fun _ _ _ _ _ => trivial), (fun _ _ _ _ _ => trivial), (fun _ _ _ _ _ => trivial), (fun _ _ _ _ _ => trivial), (fun _ _ _ _ _ => trivial), (fun _ _ _ h _ => h), trivial⟩
  · exact ⟨⟨⟨⟨⟨⟨⟨⟨⟨⟨⟨⟨⟨⟨⟨⟨⟨⟨⟨⟨⟨⟨⟨⟨⟨⟨⟨⟨⟨⟨trivial, okTr0_0 t1 t2 t3 t7 t8 q0 q1 q2 hnl hk m0 hi'.drew⟩, okTr0_1 t1 t2 t3 t7 t8 q0 q1 q2 hnl hk m0 hi'.drew⟩, okTr0_2 t1 t2 t3 t7 t8 q0 q1 q2 hnl hk m0 hi'.drew⟩, okTr0_3 t1 t2 t3 t7 t8 q0 q1 q2 hnl hk m0 hi'.drew⟩, okTr0_4 t1 t2 t3 t7 t8 q0 q1 q2 hnl hk m0 hi'.drew⟩, okTr0_5 t1 t2 t3 t7 t8 q0 q1 q2 hnl hk m0 hi'.drew⟩, okTr0_6 t1 t2 t3 t7 t8 q0 q1 q2 hnl hk m0 hi'.drew⟩, okTr0_7 t1 t2 t3 t7 t8 q0 q1 q2 hnl hk m0 hi'.drew⟩, okTr0_8 t1 t2 t3 t7 t8 q0 q1 q2 hnl hk m0 hi'.drew⟩, okTr0_9 t1 t2 t3 t7 t8 q0 q1 q2 hnl hk m0 hi'.drew⟩, okTr0_10 t1 t2 t3 t7 t8 q0 q1 q2 hnl hk m0 hi'.drew⟩, okTr0_11 t1 t2 t3 t7 t8 q0 q1 q2 hnl hk m0 hi'.drew⟩, okTr0_12 t1 t2 t3 t7 t8 q0 q1 q2 hnl hk m0 hi'.drew⟩, okTr0_13 t1 t2 t3 t7 t8 q0 q1 q2 hnl hk m0 hi'.drew⟩, okTr0_14 t1 t2 t3 t7 t8 q0 q1 q2 hnl hk m0 hi'.drew⟩, okTr0_15 t1 t2 t3 t7 t8 q0 q1 q2 hnl hk m0 hi'.drew⟩, okTr0_16 t1 t2 t3 t7 t8 q0 q1 q2 hnl hk m0 hi'.drew⟩, okTr0_17 t1 t2 t3 t7 t8 q0 q1 q2 hnl hk m0 hi'.drew⟩, okTr0_18 t1 t2 t3 t7 t8 q0 q1 q2 hnl hk m0 hi'.drew⟩, okTr0_19 t1 t2 t3 t7 t8 q0 q1 q2 hnl hk m0 hi'.drew⟩, okTr0_20 t1 t2 t3 t7 t8 q0 q1 q2 hnl hk m0 hi'.drew⟩, okTr0_21 t1 t2 t3 t7 t8 q0 q1 q2 hnl hk m0 hi'.drew⟩, okTr0_22 t1 t2 t3 t7 t8 q0 q1 q2 hnl hk m0 hi'.drew⟩, okTr0_23 t1 t2 t3 t7 t8 q0 q1 q2 hnl hk m0 hi'.drew⟩, okTr0_24 t1 t2 t3 t7 t8 q0 q1 q2 hnl hk m0 hi'.drew⟩, okTr0_25 t1 t2 t3 t7 t8 q0 q1 q2 hnl hk m0 hi'.drew⟩, okTr0_26 t1 t2 t3 t7 t8 q0 q1 q2 hnl hk m0 hi'.drew⟩, okTr0_27 t1 t2 t3 t7 t8 q0 q1 q2 hnl hk m0 hi'.drew⟩, okTr0_28 t1 t2 t3 t7 t8 q0 q1 q2 hnl hk m0 hi'.drew⟩, okTr0_29 t1 t2 t3 t7 t8 q0 q1 q2 hnl hk m0 hi'.drew⟩
noncomputable def opsTr1 : Array Oper := (Try.f22.body.bind (regionOf 7)).getD #[]
def wordsTr1 (b1 o1 b2 o2 b3 k jn : Nat) (A : Option Addr) (nl c n1 c1 n2 c2 : Nat) (o t la dy : Int) (mv : Bool) : Words := [fun v _ => v = .slice (some ⟨b1, o1, none⟩) n1 c1, fun v _ => v = .int .i64 k, fun v _ => v = .pointer (some ⟨b1, o1 + k, none⟩), fun v _ => v = .int .i64 jn, fun v _ => v = .pointer (some ⟨b3, 2, none⟩), fun v _ => v = .slice A nl c, fun v _ => v = .int .i64 nl, fun v _ => v = .int .i64 (nl - 1), fun v _ => v = .bool true, fun v _ => v = .bool false, fun v _ => v = .bool false, fun v _ => v = .agg #[.int .i64 o, .int .i64 t, .slice A nl c], fun v _ => v = .slice (some ⟨b1, o1, none⟩) n1 c1, fun v _ => v = .int .i64 k, fun v _ => v = .slice (some ⟨b1, o1, none⟩) k c1, fun v _ => v = .int .i64 la, fun v _ => v = .slice (some ⟨b1, o1, none⟩) n1 c1, fun v _ => v = .int .i64 k, fun v _ => v = .pointer (some ⟨b1, o1 + k, none⟩), fun v _ => v = .int .i64 jn, fun v _ => v = .slice (some ⟨b2, o2, none⟩) n2 c2, fun v _ => v = .slice (some ⟨b1, o1, none⟩) n1 c1, fun v _ => v = .int .i64 k, fun v _ => v = .pointer (some ⟨b1, o1 + k, none⟩), fun v _ => v = .int .i64 jn, fun v _ => v = .pointer (some ⟨b2, o2 + jn, none⟩), fun v _ => v = .int .i64 dy, fun v _ => v = .bool mv, fun v _ => v = .bool (!mv), fun v _ => v = .bool (!mv)]
set_option maxRecDepth 10000 in
theorem okTr1_0 {b1 o1 b2 o2 b3 k jn : Nat} {A : Option Addr} {nl c n1 c1 n2 c2 : Nat} {o t la dy : Int} {mv : Bool} {a : Act} {w : World} (t1 : a.eval (.tmp 1) = .slice (some ⟨b1, o1, none⟩) n1 c1) (t2 : a.eval (.tmp 2) = .slice (some ⟨b2, o2, none⟩) n2 c2) (t3 : a.eval (.tmp 3) = .pointer (some ⟨b3, 0, none⟩)) (t7 : a.eval (.tmp 7) = .int .i64 la) (t8 : a.eval (.tmp 8) = .int .i64 k) (q0 : w.cell? ⟨b3, 0, none⟩ = some (.int .i64 o)) (q1 : w.cell? ⟨b3, 1, none⟩ = some (.int .i64 t)) (q2 : w.cell? ⟨b3, 2, none⟩ = some (.slice A nl c)) (hnl : nl ≤ 12) (hk : k < n1) (m0 : w.cell? ⟨b1, o1 + k, none⟩ = some (.int .i64 jn)) (hi' : CV w 31 #[.int .i64 jn, .int .i64 0, .int .i64 (nl - 1)] (.bool true)) (m1 : w.cell? ⟨b2, o2 + jn, none⟩ = some (.int .i64 dy)) (hj : jn < n2) (hkc : k ≤ c1) (hm' : CV w 52 #[.agg #[.int .i64 o, .int .i64 t, .slice A nl c], .slice (some ⟨b1, o1, none⟩) k c1, .int .i64 la, .int .i64 jn, .int .i64 dy] (.bool mv)) : OpOk Try.prog opsTr1 (wordsTr1 b1 o1 b2 o2 b3 k jn A nl c n1 c1 n2 c2 o t la dy mv) 66 a w 0 := by
  refine OpOk.gen rfl (fun a1 w1 H => ?_)
  have e1 : a1.eval (.tmp 1) = .slice (some ⟨b1, o1, none⟩) n1 c1 := (H.out 1 (by kernel_rfl)).trans t1
  refine gd_none ?_
  exact OpW.move e1 rfl
set_option maxRecDepth 10000 in
theorem okTr1_1 {b1 o1 b2 o2 b3 k jn : Nat} {A : Option Addr} {nl c n1 c1 n2 c2 : Nat} {o t la dy : Int} {mv : Bool} {a : Act} {w : World} (t1 : a.eval (.tmp 1) = .slice (some ⟨b1, o1, none⟩) n1 c1) (t2 : a.eval (.tmp 2) = .slice (some ⟨b2, o2, none⟩) n2 c2) (t3 : a.eval (.tmp 3) = .pointer (some ⟨b3, 0, none⟩)) (t7 : a.eval (.tmp 7) = .int .i64 la) (t8 : a.eval (.tmp 8) = .int .i64 k) (q0 : w.cell? ⟨b3, 0, none⟩ = some (.int .i64 o)) (q1 : w.cell? ⟨b3, 1, none⟩ = some (.int .i64 t)) (q2 : w.cell? ⟨b3, 2, none⟩ = some (.slice A nl c)) (hnl : nl ≤ 12) (hk : k < n1) (m0 : w.cell? ⟨b1, o1 + k, none⟩ = some (.int .i64 jn)) (hi' : CV w 31 #[.int .i64 jn, .int .i64 0, .int .i64 (nl - 1)] (.bool true)) (m1 : w.cell? ⟨b2, o2 + jn, none⟩ = some (.int .i64 dy)) (hj : jn < n2) (hkc : k ≤ c1) (hm' : CV w 52 #[.agg #[.int .i64 o, .int .i64 t, .slice A nl c], .slice (some ⟨b1, o1, none⟩) k c1, .int .i64 la, .int .i64 jn, .int .i64 dy] (.bool mv)) : OpOk Try.prog opsTr1 (wordsTr1 b1 o1 b2 o2 b3 k jn A nl c n1 c1 n2 c2 o t la dy mv) 66 a w 1 := by
  refine OpOk.gen rfl (fun a1 w1 H => ?_)
  have e8 : a1.eval (.tmp 8) = .int .i64 k := (H.out 8 (by kernel_rfl)).trans t8
  refine gd_none ?_
  exact OpW.move e8 rfl
set_option maxRecDepth 10000 in
theorem okTr1_2 {b1 o1 b2 o2 b3 k jn : Nat} {A : Option Addr} {nl c n1 c1 n2 c2 : Nat} {o t la dy : Int} {mv : Bool} {a : Act} {w : World} (t1 : a.eval (.tmp 1) = .slice (some ⟨b1, o1, none⟩) n1 c1) (t2 : a.eval (.tmp 2) = .slice (some ⟨b2, o2, none⟩) n2 c2) (t3 : a.eval (.tmp 3) = .pointer (some ⟨b3, 0, none⟩)) (t7 : a.eval (.tmp 7) = .int .i64 la) (t8 : a.eval (.tmp 8) = .int .i64 k) (q0 : w.cell? ⟨b3, 0, none⟩ = some (.int .i64 o)) (q1 : w.cell? ⟨b3, 1, none⟩ = some (.int .i64 t)) (q2 : w.cell? ⟨b3, 2, none⟩ = some (.slice A nl c)) (hnl : nl ≤ 12) (hk : k < n1) (m0 : w.cell? ⟨b1, o1 + k, none⟩ = some (.int .i64 jn)) (hi' : CV w 31 #[.int .i64 jn, .int .i64 0, .int .i64 (nl - 1)] (.bool true)) (m1 : w.cell? ⟨b2, o2 + jn, none⟩ = some (.int .i64 dy)) (hj : jn < n2) (hkc : k ≤ c1) (hm' : CV w 52 #[.agg #[.int .i64 o, .int .i64 t, .slice A nl c], .slice (some ⟨b1, o1, none⟩) k c1, .int .i64 la, .int .i64 jn, .int .i64 dy] (.bool mv)) : OpOk Try.prog opsTr1 (wordsTr1 b1 o1 b2 o2 b3 k jn A nl c n1 c1 n2 c2 o t la dy mv) 66 a w 2 := by
  refine OpOk.gen rfl (fun a1 w1 H => ?_)
  have d0 : a1.eval (.tmp 29) = .slice (some ⟨b1, o1, none⟩) n1 c1 := H.dep 0 29 rfl (by kernel_rfl)
  have d1 : a1.eval (.tmp 30) = .int .i64 k := H.dep 1 30 rfl (by kernel_rfl)
  refine gd_none ?_
  exact OpW.index d0 d1 (ix25o hk _) rfl
set_option maxRecDepth 10000 in
theorem okTr1_3 {b1 o1 b2 o2 b3 k jn : Nat} {A : Option Addr} {nl c n1 c1 n2 c2 : Nat} {o t la dy : Int} {mv : Bool} {a : Act} {w : World} (t1 : a.eval (.tmp 1) = .slice (some ⟨b1, o1, none⟩) n1 c1) (t2 : a.eval (.tmp 2) = .slice (some ⟨b2, o2, none⟩) n2 c2) (t3 : a.eval (.tmp 3) = .pointer (some ⟨b3, 0, none⟩)) (t7 : a.eval (.tmp 7) = .int .i64 la) (t8 : a.eval (.tmp 8) = .int .i64 k) (q0 : w.cell? ⟨b3, 0, none⟩ = some (.int .i64 o)) (q1 : w.cell? ⟨b3, 1, none⟩ = some (.int .i64 t)) (q2 : w.cell? ⟨b3, 2, none⟩ = some (.slice A nl c)) (hnl : nl ≤ 12) (hk : k < n1) (m0 : w.cell? ⟨b1, o1 + k, none⟩ = some (.int .i64 jn)) (hi' : CV w 31 #[.int .i64 jn, .int .i64 0, .int .i64 (nl - 1)] (.bool true)) (m1 : w.cell? ⟨b2, o2 + jn, none⟩ = some (.int .i64 dy)) (hj : jn < n2) (hkc : k ≤ c1) (hm' : CV w 52 #[.agg #[.int .i64 o, .int .i64 t, .slice A nl c], .slice (some ⟨b1, o1, none⟩) k c1, .int .i64 la, .int .i64 jn, .int .i64 dy] (.bool mv)) : OpOk Try.prog opsTr1 (wordsTr1 b1 o1 b2 o2 b3 k jn A nl c n1 c1 n2 c2 o t la dy mv) 66 a w 3 := by
  refine OpOk.gen rfl (fun a1 w1 H => ?_)
  have d2 : a1.eval (.tmp 31) = .pointer (some ⟨b1, o1 + k, none⟩) := H.dep 2 31 rfl (by kernel_rfl)
  refine gd_none ?_
  exact OpW.load d2 (ld3 (H.cell m0)) rfl
set_option maxRecDepth 10000 in
theorem okTr1_4 {b1 o1 b2 o2 b3 k jn : Nat} {A : Option Addr} {nl c n1 c1 n2 c2 : Nat} {o t la dy : Int} {mv : Bool} {a : Act} {w : World} (t1 : a.eval (.tmp 1) = .slice (some ⟨b1, o1, none⟩) n1 c1) (t2 : a.eval (.tmp 2) = .slice (some ⟨b2, o2, none⟩) n2 c2) (t3 : a.eval (.tmp 3) = .pointer (some ⟨b3, 0, none⟩)) (t7 : a.eval (.tmp 7) = .int .i64 la) (t8 : a.eval (.tmp 8) = .int .i64 k) (q0 : w.cell? ⟨b3, 0, none⟩ = some (.int .i64 o)) (q1 : w.cell? ⟨b3, 1, none⟩ = some (.int .i64 t)) (q2 : w.cell? ⟨b3, 2, none⟩ = some (.slice A nl c)) (hnl : nl ≤ 12) (hk : k < n1) (m0 : w.cell? ⟨b1, o1 + k, none⟩ = some (.int .i64 jn)) (hi' : CV w 31 #[.int .i64 jn, .int .i64 0, .int .i64 (nl - 1)] (.bool true)) (m1 : w.cell? ⟨b2, o2 + jn, none⟩ = some (.int .i64 dy)) (hj : jn < n2) (hkc : k ≤ c1) (hm' : CV w 52 #[.agg #[.int .i64 o, .int .i64 t, .slice A nl c], .slice (some ⟨b1, o1, none⟩) k c1, .int .i64 la, .int .i64 jn, .int .i64 dy] (.bool mv)) : OpOk Try.prog opsTr1 (wordsTr1 b1 o1 b2 o2 b3 k jn A nl c n1 c1 n2 c2 o t la dy mv) 66 a w 4 := by
  refine OpOk.gen rfl (fun a1 w1 H => ?_)
  have e3 : a1.eval (.tmp 3) = .pointer (some ⟨b3, 0, none⟩) := (H.out 3 (by kernel_rfl)).trans t3
  refine gd_none ?_
  exact OpW.field e3 (fa24_2 _) rfl
set_option maxRecDepth 10000 in
theorem okTr1_5 {b1 o1 b2 o2 b3 k jn : Nat} {A : Option Addr} {nl c n1 c1 n2 c2 : Nat} {o t la dy : Int} {mv : Bool} {a : Act} {w : World} (t1 : a.eval (.tmp 1) = .slice (some ⟨b1, o1, none⟩) n1 c1) (t2 : a.eval (.tmp 2) = .slice (some ⟨b2, o2, none⟩) n2 c2) (t3 : a.eval (.tmp 3) = .pointer (some ⟨b3, 0, none⟩)) (t7 : a.eval (.tmp 7) = .int .i64 la) (t8 : a.eval (.tmp 8) = .int .i64 k) (q0 : w.cell? ⟨b3, 0, none⟩ = some (.int .i64 o)) (q1 : w.cell? ⟨b3, 1, none⟩ = some (.int .i64 t)) (q2 : w.cell? ⟨b3, 2, none⟩ = some (.slice A nl c)) (hnl : nl ≤ 12) (hk : k < n1) (m0 : w.cell? ⟨b1, o1 + k, none⟩ = some (.int .i64 jn)) (hi' : CV w 31 #[.int .i64 jn, .int .i64 0, .int .i64 (nl - 1)] (.bool true)) (m1 : w.cell? ⟨b2, o2 + jn, none⟩ = some (.int .i64 dy)) (hj : jn < n2) (hkc : k ≤ c1) (hm' : CV w 52 #[.agg #[.int .i64 o, .int .i64 t, .slice A nl c], .slice (some ⟨b1, o1, none⟩) k c1, .int .i64 la, .int .i64 jn, .int .i64 dy] (.bool mv)) : OpOk Try.prog opsTr1 (wordsTr1 b1 o1 b2 o2 b3 k jn A nl c n1 c1 n2 c2 o t la dy mv) 66 a w 5 := by
  refine OpOk.gen rfl (fun a1 w1 H => ?_)
  have d4 : a1.eval (.tmp 33) = .pointer (some ⟨b3, 2, none⟩) := H.dep 4 33 rfl (by kernel_rfl)
  refine gd_none ?_
  exact OpW.load d4 (ld22 (H.cell q2)) rfl
set_option maxRecDepth 10000 in
theorem okTr1_6 {b1 o1 b2 o2 b3 k jn : Nat} {A : Option Addr} {nl c n1 c1 n2 c2 : Nat} {o t la dy : Int} {mv : Bool} {a : Act} {w : World} (t1 : a.eval (.tmp 1) = .slice (some ⟨b1, o1, none⟩) n1 c1) (t2 : a.eval (.tmp 2) = .slice (some ⟨b2, o2, none⟩) n2 c2) (t3 : a.eval (.tmp 3) = .pointer (some ⟨b3, 0, none⟩)) (t7 : a.eval (.tmp 7) = .int .i64 la) (t8 : a.eval (.tmp 8) = .int .i64 k) (q0 : w.cell? ⟨b3, 0, none⟩ = some (.int .i64 o)) (q1 : w.cell? ⟨b3, 1, none⟩ = some (.int .i64 t)) (q2 : w.cell? ⟨b3, 2, none⟩ = some (.slice A nl c)) (hnl : nl ≤ 12) (hk : k < n1) (m0 : w.cell? ⟨b1, o1 + k, none⟩ = some (.int .i64 jn)) (hi' : CV w 31 #[.int .i64 jn, .int .i64 0, .int .i64 (nl - 1)] (.bool true)) (m1 : w.cell? ⟨b2, o2 + jn, none⟩ = some (.int .i64 dy)) (hj : jn < n2) (hkc : k ≤ c1) (hm' : CV w 52 #[.agg #[.int .i64 o, .int .i64 t, .slice A nl c], .slice (some ⟨b1, o1, none⟩) k c1, .int .i64 la, .int .i64 jn, .int .i64 dy] (.bool mv)) : OpOk Try.prog opsTr1 (wordsTr1 b1 o1 b2 o2 b3 k jn A nl c n1 c1 n2 c2 o t la dy mv) 66 a w 6 := by
  refine OpOk.gen rfl (fun a1 w1 H => ?_)
  have d5 : a1.eval (.tmp 34) = .slice A nl c := H.dep 5 34 rfl (by kernel_rfl)
  refine gd_none ?_
  exact OpW.len d5 (ln22 _ _ _ _ _) rfl rfl
set_option maxRecDepth 10000 in
theorem okTr1_7 {b1 o1 b2 o2 b3 k jn : Nat} {A : Option Addr} {nl c n1 c1 n2 c2 : Nat} {o t la dy : Int} {mv : Bool} {a : Act} {w : World} (t1 : a.eval (.tmp 1) = .slice (some ⟨b1, o1, none⟩) n1 c1) (t2 : a.eval (.tmp 2) = .slice (some ⟨b2, o2, none⟩) n2 c2) (t3 : a.eval (.tmp 3) = .pointer (some ⟨b3, 0, none⟩)) (t7 : a.eval (.tmp 7) = .int .i64 la) (t8 : a.eval (.tmp 8) = .int .i64 k) (q0 : w.cell? ⟨b3, 0, none⟩ = some (.int .i64 o)) (q1 : w.cell? ⟨b3, 1, none⟩ = some (.int .i64 t)) (q2 : w.cell? ⟨b3, 2, none⟩ = some (.slice A nl c)) (hnl : nl ≤ 12) (hk : k < n1) (m0 : w.cell? ⟨b1, o1 + k, none⟩ = some (.int .i64 jn)) (hi' : CV w 31 #[.int .i64 jn, .int .i64 0, .int .i64 (nl - 1)] (.bool true)) (m1 : w.cell? ⟨b2, o2 + jn, none⟩ = some (.int .i64 dy)) (hj : jn < n2) (hkc : k ≤ c1) (hm' : CV w 52 #[.agg #[.int .i64 o, .int .i64 t, .slice A nl c], .slice (some ⟨b1, o1, none⟩) k c1, .int .i64 la, .int .i64 jn, .int .i64 dy] (.bool mv)) : OpOk Try.prog opsTr1 (wordsTr1 b1 o1 b2 o2 b3 k jn A nl c n1 c1 n2 c2 o t la dy mv) 66 a w 7 := by
  refine OpOk.gen rfl (fun a1 w1 H => ?_)
  have d6 : a1.eval (.tmp 35) = .int .i64 nl := H.dep 6 35 rfl (by kernel_rfl)
  refine gd_none ?_
  exact OpW.bin d6 rfl (sub3 (by omega) (by omega) _) rfl
set_option maxRecDepth 10000 in
theorem okTr1_8 {b1 o1 b2 o2 b3 k jn : Nat} {A : Option Addr} {nl c n1 c1 n2 c2 : Nat} {o t la dy : Int} {mv : Bool} {a : Act} {w : World} (t1 : a.eval (.tmp 1) = .slice (some ⟨b1, o1, none⟩) n1 c1) (t2 : a.eval (.tmp 2) = .slice (some ⟨b2, o2, none⟩) n2 c2) (t3 : a.eval (.tmp 3) = .pointer (some ⟨b3, 0, none⟩)) (t7 : a.eval (.tmp 7) = .int .i64 la) (t8 : a.eval (.tmp 8) = .int .i64 k) (q0 : w.cell? ⟨b3, 0, none⟩ = some (.int .i64 o)) (q1 : w.cell? ⟨b3, 1, none⟩ = some (.int .i64 t)) (q2 : w.cell? ⟨b3, 2, none⟩ = some (.slice A nl c)) (hnl : nl ≤ 12) (hk : k < n1) (m0 : w.cell? ⟨b1, o1 + k, none⟩ = some (.int .i64 jn)) (hi' : CV w 31 #[.int .i64 jn, .int .i64 0, .int .i64 (nl - 1)] (.bool true)) (m1 : w.cell? ⟨b2, o2 + jn, none⟩ = some (.int .i64 dy)) (hj : jn < n2) (hkc : k ≤ c1) (hm' : CV w 52 #[.agg #[.int .i64 o, .int .i64 t, .slice A nl c], .slice (some ⟨b1, o1, none⟩) k c1, .int .i64 la, .int .i64 jn, .int .i64 dy] (.bool mv)) : OpOk Try.prog opsTr1 (wordsTr1 b1 o1 b2 o2 b3 k jn A nl c n1 c1 n2 c2 o t la dy mv) 66 a w 8 := by
  refine OpOk.gen rfl (fun a1 w1 H => ?_)
  have d3 : a1.eval (.tmp 32) = .int .i64 jn := H.dep 3 32 rfl (by kernel_rfl)
  have d7 : a1.eval (.tmp 36) = .int .i64 (nl - 1) := H.dep 7 36 rfl (by kernel_rfl)
  refine gd_none ?_
  exact OpW.call (vs := #[.int .i64 jn, .int .i64 0, .int .i64 (nl - 1)]) (enters_of Try.func31 (by kernel_rfl) rfl) (by simp [ev_const, d3, d7]) (hi' w1 H.low)
set_option maxRecDepth 10000 in
theorem okTr1_9 {b1 o1 b2 o2 b3 k jn : Nat} {A : Option Addr} {nl c n1 c1 n2 c2 : Nat} {o t la dy : Int} {mv : Bool} {a : Act} {w : World} (t1 : a.eval (.tmp 1) = .slice (some ⟨b1, o1, none⟩) n1 c1) (t2 : a.eval (.tmp 2) = .slice (some ⟨b2, o2, none⟩) n2 c2) (t3 : a.eval (.tmp 3) = .pointer (some ⟨b3, 0, none⟩)) (t7 : a.eval (.tmp 7) = .int .i64 la) (t8 : a.eval (.tmp 8) = .int .i64 k) (q0 : w.cell? ⟨b3, 0, none⟩ = some (.int .i64 o)) (q1 : w.cell? ⟨b3, 1, none⟩ = some (.int .i64 t)) (q2 : w.cell? ⟨b3, 2, none⟩ = some (.slice A nl c)) (hnl : nl ≤ 12) (hk : k < n1) (m0 : w.cell? ⟨b1, o1 + k, none⟩ = some (.int .i64 jn)) (hi' : CV w 31 #[.int .i64 jn, .int .i64 0, .int .i64 (nl - 1)] (.bool true)) (m1 : w.cell? ⟨b2, o2 + jn, none⟩ = some (.int .i64 dy)) (hj : jn < n2) (hkc : k ≤ c1) (hm' : CV w 52 #[.agg #[.int .i64 o, .int .i64 t, .slice A nl c], .slice (some ⟨b1, o1, none⟩) k c1, .int .i64 la, .int .i64 jn, .int .i64 dy] (.bool mv)) : OpOk Try.prog opsTr1 (wordsTr1 b1 o1 b2 o2 b3 k jn A nl c n1 c1 n2 c2 o t la dy mv) 66 a w 9 := by
  refine OpOk.gen rfl (fun a1 w1 H => ?_)
  have d8 : a1.eval (.tmp 37) = .bool true := H.dep 8 37 rfl (by kernel_rfl)
  refine gd_none ?_
  exact OpW.un d8 (not4 _ _) rfl
set_option maxRecDepth 10000 in
theorem okTr1_10 {b1 o1 b2 o2 b3 k jn : Nat} {A : Option Addr} {nl c n1 c1 n2 c2 : Nat} {o t la dy : Int} {mv : Bool} {a : Act} {w : World} (t1 : a.eval (.tmp 1) = .slice (some ⟨b1, o1, none⟩) n1 c1) (t2 : a.eval (.tmp 2) = .slice (some ⟨b2, o2, none⟩) n2 c2) (t3 : a.eval (.tmp 3) = .pointer (some ⟨b3, 0, none⟩)) (t7 : a.eval (.tmp 7) = .int .i64 la) (t8 : a.eval (.tmp 8) = .int .i64 k) (q0 : w.cell? ⟨b3, 0, none⟩ = some (.int .i64 o)) (q1 : w.cell? ⟨b3, 1, none⟩ = some (.int .i64 t)) (q2 : w.cell? ⟨b3, 2, none⟩ = some (.slice A nl c)) (hnl : nl ≤ 12) (hk : k < n1) (m0 : w.cell? ⟨b1, o1 + k, none⟩ = some (.int .i64 jn)) (hi' : CV w 31 #[.int .i64 jn, .int .i64 0, .int .i64 (nl - 1)] (.bool true)) (m1 : w.cell? ⟨b2, o2 + jn, none⟩ = some (.int .i64 dy)) (hj : jn < n2) (hkc : k ≤ c1) (hm' : CV w 52 #[.agg #[.int .i64 o, .int .i64 t, .slice A nl c], .slice (some ⟨b1, o1, none⟩) k c1, .int .i64 la, .int .i64 jn, .int .i64 dy] (.bool mv)) : OpOk Try.prog opsTr1 (wordsTr1 b1 o1 b2 o2 b3 k jn A nl c n1 c1 n2 c2 o t la dy mv) 66 a w 10 := by
  refine OpOk.gen rfl (fun a1 w1 H => ?_)
  have d9 : a1.eval (.tmp 38) = .bool false := H.dep 9 38 rfl (by kernel_rfl)
  refine gd_none ?_
  exact OpW.move d9 rfl
set_option maxRecDepth 10000 in
theorem okTr1_11 {b1 o1 b2 o2 b3 k jn : Nat} {A : Option Addr} {nl c n1 c1 n2 c2 : Nat} {o t la dy : Int} {mv : Bool} {a : Act} {w : World} (t1 : a.eval (.tmp 1) = .slice (some ⟨b1, o1, none⟩) n1 c1) (t2 : a.eval (.tmp 2) = .slice (some ⟨b2, o2, none⟩) n2 c2) (t3 : a.eval (.tmp 3) = .pointer (some ⟨b3, 0, none⟩)) (t7 : a.eval (.tmp 7) = .int .i64 la) (t8 : a.eval (.tmp 8) = .int .i64 k) (q0 : w.cell? ⟨b3, 0, none⟩ = some (.int .i64 o)) (q1 : w.cell? ⟨b3, 1, none⟩ = some (.int .i64 t)) (q2 : w.cell? ⟨b3, 2, none⟩ = some (.slice A nl c)) (hnl : nl ≤ 12) (hk : k < n1) (m0 : w.cell? ⟨b1, o1 + k, none⟩ = some (.int .i64 jn)) (hi' : CV w 31 #[.int .i64 jn, .int .i64 0, .int .i64 (nl - 1)] (.bool true)) (m1 : w.cell? ⟨b2, o2 + jn, none⟩ = some (.int .i64 dy)) (hj : jn < n2) (hkc : k ≤ c1) (hm' : CV w 52 #[.agg #[.int .i64 o, .int .i64 t, .slice A nl c], .slice (some ⟨b1, o1, none⟩) k c1, .int .i64 la, .int .i64 jn, .int .i64 dy] (.bool mv)) : OpOk Try.prog opsTr1 (wordsTr1 b1 o1 b2 o2 b3 k jn A nl c n1 c1 n2 c2 o t la dy mv) 66 a w 11 := by
  refine OpOk.gen rfl (fun a1 w1 H => ?_)
  have d10 : a1.eval (.tmp 39) = .bool false := H.dep 10 39 rfl (by kernel_rfl)
  have e3 : a1.eval (.tmp 3) = .pointer (some ⟨b3, 0, none⟩) := (H.out 3 (by kernel_rfl)).trans t3
  refine gd_true rfl d10 ?_
  exact OpW.load e3 (ld24 ⟨H.cell q0, H.cell q1, H.cell q2⟩) rfl
set_option maxRecDepth 10000 in
theorem okTr1_12 {b1 o1 b2 o2 b3 k jn : Nat} {A : Option Addr} {nl c n1 c1 n2 c2 : Nat} {o t la dy : Int} {mv : Bool} {a : Act} {w : World} (t1 : a.eval (.tmp 1) = .slice (some ⟨b1, o1, none⟩) n1 c1) (t2 : a.eval (.tmp 2) = .slice (some ⟨b2, o2, none⟩) n2 c2) (t3 : a.eval (.tmp 3) = .pointer (some ⟨b3, 0, none⟩)) (t7 : a.eval (.tmp 7) = .int .i64 la) (t8 : a.eval (.tmp 8) = .int .i64 k) (q0 : w.cell? ⟨b3, 0, none⟩ = some (.int .i64 o)) (q1 : w.cell? ⟨b3, 1, none⟩ = some (.int .i64 t)) (q2 : w.cell? ⟨b3, 2, none⟩ = some (.slice A nl c)) (hnl : nl ≤ 12) (hk : k < n1) (m0 : w.cell? ⟨b1, o1 + k, none⟩ = some (.int .i64 jn)) (hi' : CV w 31 #[.int .i64 jn, .int .i64 0, .int .i64 (nl - 1)] (.bool true)) (m1 : w.cell? ⟨b2, o2 + jn, none⟩ = some (.int .i64 dy)) (hj : jn < n2) (hkc : k ≤ c1) (hm' : CV w 52 #[.agg #[.int .i64 o, .int .i64 t, .slice A nl c], .slice (some ⟨b1, o1, none⟩) k c1, .int .i64 la, .int .i64 jn, .int .i64 dy] (.bool mv)) : OpOk Try.prog opsTr1 (wordsTr1 b1 o1 b2 o2 b3 k jn A nl c n1 c1 n2 c2 o t la dy mv) 66 a w 12 := by
  refine OpOk.gen rfl (fun a1 w1 H => ?_)
  have d10 : a1.eval (.tmp 39) = .bool false := H.dep 10 39 rfl (by kernel_rfl)
  have e1 : a1.eval (.tmp 1) = .slice (some ⟨b1, o1, none⟩) n1 c1 := (H.out 1 (by kernel_rfl)).trans t1
  refine gd_true rfl d10 ?_
  exact OpW.move e1 rfl
set_option maxRecDepth 10000 in
theorem okTr1_13 {b1 o1 b2 o2 b3 k jn : Nat} {A : Option Addr} {nl c n1 c1 n2 c2 : Nat} {o t la dy : Int} {mv : Bool} {a : Act} {w : World} (t1 : a.eval (.tmp 1) = .slice (some ⟨b1, o1, none⟩) n1 c1) (t2 : a.eval (.tmp 2) = .slice (some ⟨b2, o2, none⟩) n2 c2) (t3 : a.eval (.tmp 3) = .pointer (some ⟨b3, 0, none⟩)) (t7 : a.eval (.tmp 7) = .int .i64 la) (t8 : a.eval (.tmp 8) = .int .i64 k) (q0 : w.cell? ⟨b3, 0, none⟩ = some (.int .i64 o)) (q1 : w.cell? ⟨b3, 1, none⟩ = some (.int .i64 t)) (q2 : w.cell? ⟨b3, 2, none⟩ = some (.slice A nl c)) (hnl : nl ≤ 12) (hk : k < n1) (m0 : w.cell? ⟨b1, o1 + k, none⟩ = some (.int .i64 jn)) (hi' : CV w 31 #[.int .i64 jn, .int .i64 0, .int .i64 (nl - 1)] (.bool true)) (m1 : w.cell? ⟨b2, o2 + jn, none⟩ = some (.int .i64 dy)) (hj : jn < n2) (hkc : k ≤ c1) (hm' : CV w 52 #[.agg #[.int .i64 o, .int .i64 t, .slice A nl c], .slice (some ⟨b1, o1, none⟩) k c1, .int .i64 la, .int .i64 jn, .int .i64 dy] (.bool mv)) : OpOk Try.prog opsTr1 (wordsTr1 b1 o1 b2 o2 b3 k jn A nl c n1 c1 n2 c2 o t la dy mv) 66 a w 13 := by
  refine OpOk.gen rfl (fun a1 w1 H => ?_)
  have d10 : a1.eval (.tmp 39) = .bool false := H.dep 10 39 rfl (by kernel_rfl)
  have e8 : a1.eval (.tmp 8) = .int .i64 k := (H.out 8 (by kernel_rfl)).trans t8
  refine gd_true rfl d10 ?_
  exact OpW.move e8 rfl
set_option maxRecDepth 10000 in
theorem okTr1_14 {b1 o1 b2 o2 b3 k jn : Nat} {A : Option Addr} {nl c n1 c1 n2 c2 : Nat} {o t la dy : Int} {mv : Bool} {a : Act} {w : World} (t1 : a.eval (.tmp 1) = .slice (some ⟨b1, o1, none⟩) n1 c1) (t2 : a.eval (.tmp 2) = .slice (some ⟨b2, o2, none⟩) n2 c2) (t3 : a.eval (.tmp 3) = .pointer (some ⟨b3, 0, none⟩)) (t7 : a.eval (.tmp 7) = .int .i64 la) (t8 : a.eval (.tmp 8) = .int .i64 k) (q0 : w.cell? ⟨b3, 0, none⟩ = some (.int .i64 o)) (q1 : w.cell? ⟨b3, 1, none⟩ = some (.int .i64 t)) (q2 : w.cell? ⟨b3, 2, none⟩ = some (.slice A nl c)) (hnl : nl ≤ 12) (hk : k < n1) (m0 : w.cell? ⟨b1, o1 + k, none⟩ = some (.int .i64 jn)) (hi' : CV w 31 #[.int .i64 jn, .int .i64 0, .int .i64 (nl - 1)] (.bool true)) (m1 : w.cell? ⟨b2, o2 + jn, none⟩ = some (.int .i64 dy)) (hj : jn < n2) (hkc : k ≤ c1) (hm' : CV w 52 #[.agg #[.int .i64 o, .int .i64 t, .slice A nl c], .slice (some ⟨b1, o1, none⟩) k c1, .int .i64 la, .int .i64 jn, .int .i64 dy] (.bool mv)) : OpOk Try.prog opsTr1 (wordsTr1 b1 o1 b2 o2 b3 k jn A nl c n1 c1 n2 c2 o t la dy mv) 66 a w 14 := by
  refine OpOk.gen rfl (fun a1 w1 H => ?_)
  have d10 : a1.eval (.tmp 39) = .bool false := H.dep 10 39 rfl (by kernel_rfl)
  have d12 : a1.eval (.tmp 41) = .slice (some ⟨b1, o1, none⟩) n1 c1 := H.dep 12 41 rfl (by kernel_rfl)
  have d13 : a1.eval (.tmp 42) = .int .i64 k := H.dep 13 42 rfl (by kernel_rfl)
  refine gd_true rfl d10 ?_
  exact OpW.sliceH d12 d13 (sl25 hkc _) rfl
set_option maxRecDepth 10000 in
theorem okTr1_15 {b1 o1 b2 o2 b3 k jn : Nat} {A : Option Addr} {nl c n1 c1 n2 c2 : Nat} {o t la dy : Int} {mv : Bool} {a : Act} {w : World} (t1 : a.eval (.tmp 1) = .slice (some ⟨b1, o1, none⟩) n1 c1) (t2 : a.eval (.tmp 2) = .slice (some ⟨b2, o2, none⟩) n2 c2) (t3 : a.eval (.tmp 3) = .pointer (some ⟨b3, 0, none⟩)) (t7 : a.eval (.tmp 7) = .int .i64 la) (t8 : a.eval (.tmp 8) = .int .i64 k) (q0 : w.cell? ⟨b3, 0, none⟩ = some (.int .i64 o)) (q1 : w.cell? ⟨b3, 1, none⟩ = some (.int .i64 t)) (q2 : w.cell? ⟨b3, 2, none⟩ = some (.slice A nl c)) (hnl : nl ≤ 12) (hk : k < n1) (m0 : w.cell? ⟨b1, o1 + k, none⟩ = some (.int .i64 jn)) (hi' : CV w 31 #[.int .i64 jn, .int .i64 0, .int .i64 (nl - 1)] (.bool true)) (m1 : w.cell? ⟨b2, o2 + jn, none⟩ = some (.int .i64 dy)) (hj : jn < n2) (hkc : k ≤ c1) (hm' : CV w 52 #[.agg #[.int .i64 o, .int .i64 t, .slice A nl c], .slice (some ⟨b1, o1, none⟩) k c1, .int .i64 la, .int .i64 jn, .int .i64 dy] (.bool mv)) : OpOk Try.prog opsTr1 (wordsTr1 b1 o1 b2 o2 b3 k jn A nl c n1 c1 n2 c2 o t la dy mv) 66 a w 15 := by
  refine OpOk.gen rfl (fun a1 w1 H => ?_)
  have d10 : a1.eval (.tmp 39) = .bool false := H.dep 10 39 rfl (by kernel_rfl)
  have e7 : a1.eval (.tmp 7) = .int .i64 la := (H.out 7 (by kernel_rfl)).trans t7
  refine gd_true rfl d10 ?_
  exact OpW.move e7 rfl
set_option maxRecDepth 10000 in
theorem okTr1_16 {b1 o1 b2 o2 b3 k jn : Nat} {A : Option Addr} {nl c n1 c1 n2 c2 : Nat} {o t la dy : Int} {mv : Bool} {a : Act} {w : World} (t1 : a.eval (.tmp 1) = .slice (some ⟨b1, o1, none⟩) n1 c1) (t2 : a.eval (.tmp 2) = .slice (some ⟨b2, o2, none⟩) n2 c2) (t3 : a.eval (.tmp 3) = .pointer (some ⟨b3, 0, none⟩)) (t7 : a.eval (.tmp 7) = .int .i64 la) (t8 : a.eval (.tmp 8) = .int .i64 k) (q0 : w.cell? ⟨b3, 0, none⟩ = some (.int .i64 o)) (q1 : w.cell? ⟨b3, 1, none⟩ = some (.int .i64 t)) (q2 : w.cell? ⟨b3, 2, none⟩ = some (.slice A nl c)) (hnl : nl ≤ 12) (hk : k < n1) (m0 : w.cell? ⟨b1, o1 + k, none⟩ = some (.int .i64 jn)) (hi' : CV w 31 #[.int .i64 jn, .int .i64 0, .int .i64 (nl - 1)] (.bool true)) (m1 : w.cell? ⟨b2, o2 + jn, none⟩ = some (.int .i64 dy)) (hj : jn < n2) (hkc : k ≤ c1) (hm' : CV w 52 #[.agg #[.int .i64 o, .int .i64 t, .slice A nl c], .slice (some ⟨b1, o1, none⟩) k c1, .int .i64 la, .int .i64 jn, .int .i64 dy] (.bool mv)) : OpOk Try.prog opsTr1 (wordsTr1 b1 o1 b2 o2 b3 k jn A nl c n1 c1 n2 c2 o t la dy mv) 66 a w 16 := by
  refine OpOk.gen rfl (fun a1 w1 H => ?_)
  have d10 : a1.eval (.tmp 39) = .bool false := H.dep 10 39 rfl (by kernel_rfl)
  have e1 : a1.eval (.tmp 1) = .slice (some ⟨b1, o1, none⟩) n1 c1 := (H.out 1 (by kernel_rfl)).trans t1
  refine gd_true rfl d10 ?_
  exact OpW.move e1 rfl
set_option maxRecDepth 10000 in
theorem okTr1_17 {b1 o1 b2 o2 b3 k jn : Nat} {A : Option Addr} {nl c n1 c1 n2 c2 : Nat} {o t la dy : Int} {mv : Bool} {a : Act} {w : World} (t1 : a.eval (.tmp 1) = .slice (some ⟨b1, o1, none⟩) n1 c1) (t2 : a.eval (.tmp 2) = .slice (some ⟨b2, o2, none⟩) n2 c2) (t3 : a.eval (.tmp 3) = .pointer (some ⟨b3, 0, none⟩)) (t7 : a.eval (.tmp 7) = .int .i64 la) (t8 : a.eval (.tmp 8) = .int .i64 k) (q0 : w.cell? ⟨b3, 0, none⟩ = some (.int .i64 o)) (q1 : w.cell? ⟨b3, 1, none⟩ = some (.int .i64 t)) (q2 : w.cell? ⟨b3, 2, none⟩ = some (.slice A nl c)) (hnl : nl ≤ 12) (hk : k < n1) (m0 : w.cell? ⟨b1, o1 + k, none⟩ = some (.int .i64 jn)) (hi' : CV w 31 #[.int .i64 jn, .int .i64 0, .int .i64 (nl - 1)] (.bool true)) (m1 : w.cell? ⟨b2, o2 + jn, none⟩ = some (.int .i64 dy)) (hj : jn < n2) (hkc : k ≤ c1) (hm' : CV w 52 #[.agg #[.int .i64 o, .int .i64 t, .slice A nl c], .slice (some ⟨b1, o1, none⟩) k c1, .int .i64 la, .int .i64 jn, .int .i64 dy] (.bool mv)) : OpOk Try.prog opsTr1 (wordsTr1 b1 o1 b2 o2 b3 k jn A nl c n1 c1 n2 c2 o t la dy mv) 66 a w 17 := by
  refine OpOk.gen rfl (fun a1 w1 H => ?_)
  have d10 : a1.eval (.tmp 39) = .bool false := H.dep 10 39 rfl (by kernel_rfl)
  have e8 : a1.eval (.tmp 8) = .int .i64 k := (H.out 8 (by kernel_rfl)).trans t8
  refine gd_true rfl d10 ?_
  exact OpW.move e8 rfl
set_option maxRecDepth 10000 in
theorem okTr1_18 {b1 o1 b2 o2 b3 k jn : Nat} {A : Option Addr} {nl c n1 c1 n2 c2 : Nat} {o t la dy : Int} {mv : Bool} {a : Act} {w : World} (t1 : a.eval (.tmp 1) = .slice (some ⟨b1, o1, none⟩) n1 c1) (t2 : a.eval (.tmp 2) = .slice (some ⟨b2, o2, none⟩) n2 c2) (t3 : a.eval (.tmp 3) = .pointer (some ⟨b3, 0, none⟩)) (t7 : a.eval (.tmp 7) = .int .i64 la) (t8 : a.eval (.tmp 8) = .int .i64 k) (q0 : w.cell? ⟨b3, 0, none⟩ = some (.int .i64 o)) (q1 : w.cell? ⟨b3, 1, none⟩ = some (.int .i64 t)) (q2 : w.cell? ⟨b3, 2, none⟩ = some (.slice A nl c)) (hnl : nl ≤ 12) (hk : k < n1) (m0 : w.cell? ⟨b1, o1 + k, none⟩ = some (.int .i64 jn)) (hi' : CV w 31 #[.int .i64 jn, .int .i64 0, .int .i64 (nl - 1)] (.bool true)) (m1 : w.cell? ⟨b2, o2 + jn, none⟩ = some (.int .i64 dy)) (hj : jn < n2) (hkc : k ≤ c1) (hm' : CV w 52 #[.agg #[.int .i64 o, .int .i64 t, .slice A nl c], .slice (some ⟨b1, o1, none⟩) k c1, .int .i64 la, .int .i64 jn, .int .i64 dy] (.bool mv)) : OpOk Try.prog opsTr1 (wordsTr1 b1 o1 b2 o2 b3 k jn A nl c n1 c1 n2 c2 o t la dy mv) 66 a w 18 := by
  refine OpOk.gen rfl (fun a1 w1 H => ?_)
  have d10 : a1.eval (.tmp 39) = .bool false := H.dep 10 39 rfl (by kernel_rfl)
  have d16 : a1.eval (.tmp 45) = .slice (some ⟨b1, o1, none⟩) n1 c1 := H.dep 16 45 rfl (by kernel_rfl)
  have d17 : a1.eval (.tmp 46) = .int .i64 k := H.dep 17 46 rfl (by kernel_rfl)
  refine gd_true rfl d10 ?_
  exact OpW.index d16 d17 (ix25o hk _) rfl
set_option maxRecDepth 10000 in
theorem okTr1_19 {b1 o1 b2 o2 b3 k jn : Nat} {A : Option Addr} {nl c n1 c1 n2 c2 : Nat} {o t la dy : Int} {mv : Bool} {a : Act} {w : World} (t1 : a.eval (.tmp 1) = .slice (some ⟨b1, o1, none⟩) n1 c1) (t2 : a.eval (.tmp 2) = .slice (some ⟨b2, o2, none⟩) n2 c2) (t3 : a.eval (.tmp 3) = .pointer (some ⟨b3, 0, none⟩)) (t7 : a.eval (.tmp 7) = .int .i64 la) (t8 : a.eval (.tmp 8) = .int .i64 k) (q0 : w.cell? ⟨b3, 0, none⟩ = some (.int .i64 o)) (q1 : w.cell? ⟨b3, 1, none⟩ = some (.int .i64 t)) (q2 : w.cell? ⟨b3, 2, none⟩ = some (.slice A nl c)) (hnl : nl ≤ 12) (hk : k < n1) (m0 : w.cell? ⟨b1, o1 + k, none⟩ = some (.int .i64 jn)) (hi' : CV w 31 #[.int .i64 jn, .int .i64 0, .int .i64 (nl - 1)] (.bool true)) (m1 : w.cell? ⟨b2, o2 + jn, none⟩ = some (.int .i64 dy)) (hj : jn < n2) (hkc : k ≤ c1) (hm' : CV w 52 #[.agg #[.int .i64 o, .int .i64 t, .slice A nl c], .slice (some ⟨b1, o1, none⟩) k c1, .int .i64 la, .int .i64 jn, .int .i64 dy] (.bool mv)) : OpOk Try.prog opsTr1 (wordsTr1 b1 o1 b2 o2 b3 k jn A nl c n1 c1 n2 c2 o t la dy mv) 66 a w 19 := by
  refine OpOk.gen rfl (fun a1 w1 H => ?_)
  have d10 : a1.eval (.tmp 39) = .bool false := H.dep 10 39 rfl (by kernel_rfl)
  have d18 : a1.eval (.tmp 47) = .pointer (some ⟨b1, o1 + k, none⟩) := H.dep 18 47 rfl (by kernel_rfl)
  refine gd_true rfl d10 ?_
  exact OpW.load d18 (ld3 (H.cell m0)) rfl
set_option maxRecDepth 10000 in
theorem okTr1_20 {b1 o1 b2 o2 b3 k jn : Nat} {A : Option Addr} {nl c n1 c1 n2 c2 : Nat} {o t la dy : Int} {mv : Bool} {a : Act} {w : World} (t1 : a.eval (.tmp 1) = .slice (some ⟨b1, o1, none⟩) n1 c1) (t2 : a.eval (.tmp 2) = .slice (some ⟨b2, o2, none⟩) n2 c2) (t3 : a.eval (.tmp 3) = .pointer (some ⟨b3, 0, none⟩)) (t7 : a.eval (.tmp 7) = .int .i64 la) (t8 : a.eval (.tmp 8) = .int .i64 k) (q0 : w.cell? ⟨b3, 0, none⟩ = some (.int .i64 o)) (q1 : w.cell? ⟨b3, 1, none⟩ = some (.int .i64 t)) (q2 : w.cell? ⟨b3, 2, none⟩ = some (.slice A nl c)) (hnl : nl ≤ 12) (hk : k < n1) (m0 : w.cell? ⟨b1, o1 + k, none⟩ = some (.int .i64 jn)) (hi' : CV w 31 #[.int .i64 jn, .int .i64 0, .int .i64 (nl - 1)] (.bool true)) (m1 : w.cell? ⟨b2, o2 + jn, none⟩ = some (.int .i64 dy)) (hj : jn < n2) (hkc : k ≤ c1) (hm' : CV w 52 #[.agg #[.int .i64 o, .int .i64 t, .slice A nl c], .slice (some ⟨b1, o1, none⟩) k c1, .int .i64 la, .int .i64 jn, .int .i64 dy] (.bool mv)) : OpOk Try.prog opsTr1 (wordsTr1 b1 o1 b2 o2 b3 k jn A nl c n1 c1 n2 c2 o t la dy mv) 66 a w 20 := by
  refine OpOk.gen rfl (fun a1 w1 H => ?_)
  have d10 : a1.eval (.tmp 39) = .bool false := H.dep 10 39 rfl (by kernel_rfl)
  have e2 : a1.eval (.tmp 2) = .slice (some ⟨b2, o2, none⟩) n2 c2 := (H.out 2 (by kernel_rfl)).trans t2
  refine gd_true rfl d10 ?_
  exact OpW.move e2 rfl
set_option maxRecDepth 10000 in
theorem okTr1_21 {b1 o1 b2 o2 b3 k jn : Nat} {A : Option Addr} {nl c n1 c1 n2 c2 : Nat} {o t la dy : Int} {mv : Bool} {a : Act} {w : World} (t1 : a.eval (.tmp 1) = .slice (some ⟨b1, o1, none⟩) n1 c1) (t2 : a.eval (.tmp 2) = .slice (some ⟨b2, o2, none⟩) n2 c2) (t3 : a.eval (.tmp 3) = .pointer (some ⟨b3, 0, none⟩)) (t7 : a.eval (.tmp 7) = .int .i64 la) (t8 : a.eval (.tmp 8) = .int .i64 k) (q0 : w.cell? ⟨b3, 0, none⟩ = some (.int .i64 o)) (q1 : w.cell? ⟨b3, 1, none⟩ = some (.int .i64 t)) (q2 : w.cell? ⟨b3, 2, none⟩ = some (.slice A nl c)) (hnl : nl ≤ 12) (hk : k < n1) (m0 : w.cell? ⟨b1, o1 + k, none⟩ = some (.int .i64 jn)) (hi' : CV w 31 #[.int .i64 jn, .int .i64 0, .int .i64 (nl - 1)] (.bool true)) (m1 : w.cell? ⟨b2, o2 + jn, none⟩ = some (.int .i64 dy)) (hj : jn < n2) (hkc : k ≤ c1) (hm' : CV w 52 #[.agg #[.int .i64 o, .int .i64 t, .slice A nl c], .slice (some ⟨b1, o1, none⟩) k c1, .int .i64 la, .int .i64 jn, .int .i64 dy] (.bool mv)) : OpOk Try.prog opsTr1 (wordsTr1 b1 o1 b2 o2 b3 k jn A nl c n1 c1 n2 c2 o t la dy mv) 66 a w 21 := by
  refine OpOk.gen rfl (fun a1 w1 H => ?_)
  have d10 : a1.eval (.tmp 39) = .bool false := H.dep 10 39 rfl (by kernel_rfl)
  have e1 : a1.eval (.tmp 1) = .slice (some ⟨b1, o1, none⟩) n1 c1 := (H.out 1 (by kernel_rfl)).trans t1
  refine gd_true rfl d10 ?_
  exact OpW.move e1 rfl
set_option maxRecDepth 10000 in
theorem okTr1_22 {b1 o1 b2 o2 b3 k jn : Nat} {A : Option Addr} {nl c n1 c1 n2 c2 : Nat} {o t la dy : Int} {mv : Bool} {a : Act} {w : World} (t1 : a.eval (.tmp 1) = .slice (some ⟨b1, o1, none⟩) n1 c1) (t2 : a.eval (.tmp 2) = .slice (some ⟨b2, o2, none⟩) n2 c2) (t3 : a.eval (.tmp 3) = .pointer (some ⟨b3, 0, none⟩)) (t7 : a.eval (.tmp 7) = .int .i64 la) (t8 : a.eval (.tmp 8) = .int .i64 k) (q0 : w.cell? ⟨b3, 0, none⟩ = some (.int .i64 o)) (q1 : w.cell? ⟨b3, 1, none⟩ = some (.int .i64 t)) (q2 : w.cell? ⟨b3, 2, none⟩ = some (.slice A nl c)) (hnl : nl ≤ 12) (hk : k < n1) (m0 : w.cell? ⟨b1, o1 + k, none⟩ = some (.int .i64 jn)) (hi' : CV w 31 #[.int .i64 jn, .int .i64 0, .int .i64 (nl - 1)] (.bool true)) (m1 : w.cell? ⟨b2, o2 + jn, none⟩ = some (.int .i64 dy)) (hj : jn < n2) (hkc : k ≤ c1) (hm' : CV w 52 #[.agg #[.int .i64 o, .int .i64 t, .slice A nl c], .slice (some ⟨b1, o1, none⟩) k c1, .int .i64 la, .int .i64 jn, .int .i64 dy] (.bool mv)) : OpOk Try.prog opsTr1 (wordsTr1 b1 o1 b2 o2 b3 k jn A nl c n1 c1 n2 c2 o t la dy mv) 66 a w 22 := by
  refine OpOk.gen rfl (fun a1 w1 H => ?_)
  have d10 : a1.eval (.tmp 39) = .bool false := H.dep 10 39 rfl (by kernel_rfl)
  have e8 : a1.eval (.tmp 8) = .int .i64 k := (H.out 8 (by kernel_rfl)).trans t8
  refine gd_true rfl d10 ?_
  exact OpW.move e8 rfl
set_option maxRecDepth 10000 in
theorem okTr1_23 {b1 o1 b2 o2 b3 k jn : Nat} {A : Option Addr} {nl c n1 c1 n2 c2 : Nat} {o t la dy : Int} {mv : Bool} {a : Act} {w : World} (t1 : a.eval (.tmp 1) = .slice (some ⟨b1, o1, none⟩) n1 c1) (t2 : a.eval (.tmp 2) = .slice (some ⟨b2, o2, none⟩) n2 c2) (t3 : a.eval (.tmp 3) = .pointer (some ⟨b3, 0, none⟩)) (t7 : a.eval (.tmp 7) = .int .i64 la) (t8 : a.eval (.tmp 8) = .int .i64 k) (q0 : w.cell? ⟨b3, 0, none⟩ = some (.int .i64 o)) (q1 : w.cell? ⟨b3, 1, none⟩ = some (.int .i64 t)) (q2 : w.cell? ⟨b3, 2, none⟩ = some (.slice A nl c)) (hnl : nl ≤ 12) (hk : k < n1) (m0 : w.cell? ⟨b1, o1 + k, none⟩ = some (.int .i64 jn)) (hi' : CV w 31 #[.int .i64 jn, .int .i64 0, .int .i64 (nl - 1)] (.bool true)) (m1 : w.cell? ⟨b2, o2 + jn, none⟩ = some (.int .i64 dy)) (hj : jn < n2) (hkc : k ≤ c1) (hm' : CV w 52 #[.agg #[.int .i64 o, .int .i64 t, .slice A nl c], .slice (some ⟨b1, o1, none⟩) k c1, .int .i64 la, .int .i64 jn, .int .i64 dy] (.bool mv)) : OpOk Try.prog opsTr1 (wordsTr1 b1 o1 b2 o2 b3 k jn A nl c n1 c1 n2 c2 o t la dy mv) 66 a w 23 := by
  refine OpOk.gen rfl (fun a1 w1 H => ?_)
  have d10 : a1.eval (.tmp 39) = .bool false := H.dep 10 39 rfl (by kernel_rfl)
  have d21 : a1.eval (.tmp 50) = .slice (some ⟨b1, o1, none⟩) n1 c1 := H.dep 21 50 rfl (by kernel_rfl)
  have d22 : a1.eval (.tmp 51) = .int .i64 k := H.dep 22 51 rfl (by kernel_rfl)
  refine gd_true rfl d10 ?_
  exact OpW.index d21 d22 (ix25o hk _) rfl
set_option maxRecDepth 10000 in
theorem okTr1_24 {b1 o1 b2 o2 b3 k jn : Nat} {A : Option Addr} {nl c n1 c1 n2 c2 : Nat} {o t la dy : Int} {mv : Bool} {a : Act} {w : World} (t1 : a.eval (.tmp 1) = .slice (some ⟨b1, o1, none⟩) n1 c1) (t2 : a.eval (.tmp 2) = .slice (some ⟨b2, o2, none⟩) n2 c2) (t3 : a.eval (.tmp 3) = .pointer (some ⟨b3, 0, none⟩)) (t7 : a.eval (.tmp 7) = .int .i64 la) (t8 : a.eval (.tmp 8) = .int .i64 k) (q0 : w.cell? ⟨b3, 0, none⟩ = some (.int .i64 o)) (q1 : w.cell? ⟨b3, 1, none⟩ = some (.int .i64 t)) (q2 : w.cell? ⟨b3, 2, none⟩ = some (.slice A nl c)) (hnl : nl ≤ 12) (hk : k < n1) (m0 : w.cell? ⟨b1, o1 + k, none⟩ = some (.int .i64 jn)) (hi' : CV w 31 #[.int .i64 jn, .int .i64 0, .int .i64 (nl - 1)] (.bool true)) (m1 : w.cell? ⟨b2, o2 + jn, none⟩ = some (.int .i64 dy)) (hj : jn < n2) (hkc : k ≤ c1) (hm' : CV w 52 #[.agg #[.int .i64 o, .int .i64 t, .slice A nl c], .slice (some ⟨b1, o1, none⟩) k c1, .int .i64 la, .int .i64 jn, .int .i64 dy] (.bool mv)) : OpOk Try.prog opsTr1 (wordsTr1 b1 o1 b2 o2 b3 k jn A nl c n1 c1 n2 c2 o t la dy mv) 66 a w 24 := by
  refine OpOk.gen rfl (fun a1 w1 H => ?_)
  have d10 : a1.eval (.tmp 39) = .bool false := H.dep 10 39 rfl (by kernel_rfl)
  have d23 : a1.eval (.tmp 52) = .pointer (some ⟨b1, o1 + k, none⟩) := H.dep 23 52 rfl (by kernel_rfl)
  refine gd_true rfl d10 ?_
  exact OpW.load d23 (ld3 (H.cell m0)) rfl
set_option maxRecDepth 10000 in
theorem okTr1_25 {b1 o1 b2 o2 b3 k jn : Nat} {A : Option Addr} {nl c n1 c1 n2 c2 : Nat} {o t la dy : Int} {mv : Bool} {a : Act} {w : World} (t1 : a.eval (.tmp 1) = .slice (some ⟨b1, o1, none⟩) n1 c1) (t2 : a.eval (.tmp 2) = .slice (some ⟨b2, o2, none⟩) n2 c2) (t3 : a.eval (.tmp 3) = .pointer (some ⟨b3, 0, none⟩)) (t7 : a.eval (.tmp 7) = .int .i64 la) (t8 : a.eval (.tmp 8) = .int .i64 k) (q0 : w.cell? ⟨b3, 0, none⟩ = some (.int .i64 o)) (q1 : w.cell? ⟨b3, 1, none⟩ = some (.int .i64 t)) (q2 : w.cell? ⟨b3, 2, none⟩ = some (.slice A nl c)) (hnl : nl ≤ 12) (hk : k < n1) (m0 : w.cell? ⟨b1, o1 + k, none⟩ = some (.int .i64 jn)) (hi' : CV w 31 #[.int .i64 jn, .int .i64 0, .int .i64 (nl - 1)] (.bool true)) (m1 : w.cell? ⟨b2, o2 + jn, none⟩ = some (.int .i64 dy)) (hj : jn < n2) (hkc : k ≤ c1) (hm' : CV w 52 #[.agg #[.int .i64 o, .int .i64 t, .slice A nl c], .slice (some ⟨b1, o1, none⟩) k c1, .int .i64 la, .int .i64 jn, .int .i64 dy] (.bool mv)) : OpOk Try.prog opsTr1 (wordsTr1 b1 o1 b2 o2 b3 k jn A nl c n1 c1 n2 c2 o t la dy mv) 66 a w 25 := by
  refine OpOk.gen rfl (fun a1 w1 H => ?_)
  have d10 : a1.eval (.tmp 39) = .bool false := H.dep 10 39 rfl (by kernel_rfl)
  have d20 : a1.eval (.tmp 49) = .slice (some ⟨b2, o2, none⟩) n2 c2 := H.dep 20 49 rfl (by kernel_rfl)
  have d24 : a1.eval (.tmp 53) = .int .i64 jn := H.dep 24 53 rfl (by kernel_rfl)
  refine gd_true rfl d10 ?_
  exact OpW.index d20 d24 (ix25o hj _) rfl
set_option maxRecDepth 10000 in
theorem okTr1_26 {b1 o1 b2 o2 b3 k jn : Nat} {A : Option Addr} {nl c n1 c1 n2 c2 : Nat} {o t la dy : Int} {mv : Bool} {a : Act} {w : World} (t1 : a.eval (.tmp 1) = .slice (some ⟨b1, o1, none⟩) n1 c1) (t2 : a.eval (.tmp 2) = .slice (some ⟨b2, o2, none⟩) n2 c2) (t3 : a.eval (.tmp 3) = .pointer (some ⟨b3, 0, none⟩)) (t7 : a.eval (.tmp 7) = .int .i64 la) (t8 : a.eval (.tmp 8) = .int .i64 k) (q0 : w.cell? ⟨b3, 0, none⟩ = some (.int .i64 o)) (q1 : w.cell? ⟨b3, 1, none⟩ = some (.int .i64 t)) (q2 : w.cell? ⟨b3, 2, none⟩ = some (.slice A nl c)) (hnl : nl ≤ 12) (hk : k < n1) (m0 : w.cell? ⟨b1, o1 + k, none⟩ = some (.int .i64 jn)) (hi' : CV w 31 #[.int .i64 jn, .int .i64 0, .int .i64 (nl - 1)] (.bool true)) (m1 : w.cell? ⟨b2, o2 + jn, none⟩ = some (.int .i64 dy)) (hj : jn < n2) (hkc : k ≤ c1) (hm' : CV w 52 #[.agg #[.int .i64 o, .int .i64 t, .slice A nl c], .slice (some ⟨b1, o1, none⟩) k c1, .int .i64 la, .int .i64 jn, .int .i64 dy] (.bool mv)) : OpOk Try.prog opsTr1 (wordsTr1 b1 o1 b2 o2 b3 k jn A nl c n1 c1 n2 c2 o t la dy mv) 66 a w 26 := by
  refine OpOk.gen rfl (fun a1 w1 H => ?_)
  have d10 : a1.eval (.tmp 39) = .bool false := H.dep 10 39 rfl (by kernel_rfl)
  have d25 : a1.eval (.tmp 54) = .pointer (some ⟨b2, o2 + jn, none⟩) := H.dep 25 54 rfl (by kernel_rfl)
  refine gd_true rfl d10 ?_
  exact OpW.load d25 (ld3 (H.cell m1)) rfl
set_option maxRecDepth 10000 in
theorem okTr1_27 {b1 o1 b2 o2 b3 k jn : Nat} {A : Option Addr} {nl c n1 c1 n2 c2 : Nat} {o t la dy : Int} {mv : Bool} {a : Act} {w : World} (t1 : a.eval (.tmp 1) = .slice (some ⟨b1, o1, none⟩) n1 c1) (t2 : a.eval (.tmp 2) = .slice (some ⟨b2, o2, none⟩) n2 c2) (t3 : a.eval (.tmp 3) = .pointer (some ⟨b3, 0, none⟩)) (t7 : a.eval (.tmp 7) = .int .i64 la) (t8 : a.eval (.tmp 8) = .int .i64 k) (q0 : w.cell? ⟨b3, 0, none⟩ = some (.int .i64 o)) (q1 : w.cell? ⟨b3, 1, none⟩ = some (.int .i64 t)) (q2 : w.cell? ⟨b3, 2, none⟩ = some (.slice A nl c)) (hnl : nl ≤ 12) (hk : k < n1) (m0 : w.cell? ⟨b1, o1 + k, none⟩ = some (.int .i64 jn)) (hi' : CV w 31 #[.int .i64 jn, .int .i64 0, .int .i64 (nl - 1)] (.bool true)) (m1 : w.cell? ⟨b2, o2 + jn, none⟩ = some (.int .i64 dy)) (hj : jn < n2) (hkc : k ≤ c1) (hm' : CV w 52 #[.agg #[.int .i64 o, .int .i64 t, .slice A nl c], .slice (some ⟨b1, o1, none⟩) k c1, .int .i64 la, .int .i64 jn, .int .i64 dy] (.bool mv)) : OpOk Try.prog opsTr1 (wordsTr1 b1 o1 b2 o2 b3 k jn A nl c n1 c1 n2 c2 o t la dy mv) 66 a w 27 := by
  refine OpOk.gen rfl (fun a1 w1 H => ?_)
  have d10 : a1.eval (.tmp 39) = .bool false := H.dep 10 39 rfl (by kernel_rfl)
  have d11 : a1.eval (.tmp 40) = .agg #[.int .i64 o, .int .i64 t, .slice A nl c] := H.dep 11 40 rfl (by kernel_rfl)
  have d14 : a1.eval (.tmp 43) = .slice (some ⟨b1, o1, none⟩) k c1 := H.dep 14 43 rfl (by kernel_rfl)
  have d15 : a1.eval (.tmp 44) = .int .i64 la := H.dep 15 44 rfl (by kernel_rfl)
  have d19 : a1.eval (.tmp 48) = .int .i64 jn := H.dep 19 48 rfl (by kernel_rfl)
  have d26 : a1.eval (.tmp 55) = .int .i64 dy := H.dep 26 55 rfl (by kernel_rfl)
  refine gd_true rfl d10 ?_
  exact OpW.call (vs := #[.agg #[.int .i64 o, .int .i64 t, .slice A nl c], .slice (some ⟨b1, o1, none⟩) k c1, .int .i64 la, .int .i64 jn, .int .i64 dy]) (enters_of Try.func52 (by kernel_rfl) rfl) (by simp [d11, d14, d15, d19, d26]) (hm' w1 H.low)
set_option maxRecDepth 10000 in
theorem okTr1_28 {b1 o1 b2 o2 b3 k jn : Nat} {A : Option Addr} {nl c n1 c1 n2 c2 : Nat} {o t la dy : Int} {mv : Bool} {a : Act} {w : World} (t1 : a.eval (.tmp 1) = .slice (some ⟨b1, o1, none⟩) n1 c1) (t2 : a.eval (.tmp 2) = .slice (some ⟨b2, o2, none⟩) n2 c2) (t3 : a.eval (.tmp 3) = .pointer (some ⟨b3, 0, none⟩)) (t7 : a.eval (.tmp 7) = .int .i64 la) (t8 : a.eval (.tmp 8) = .int .i64 k) (q0 : w.cell? ⟨b3, 0, none⟩ = some (.int .i64 o)) (q1 : w.cell? ⟨b3, 1, none⟩ = some (.int .i64 t)) (q2 : w.cell? ⟨b3, 2, none⟩ = some (.slice A nl c)) (hnl : nl ≤ 12) (hk : k < n1) (m0 : w.cell? ⟨b1, o1 + k, none⟩ = some (.int .i64 jn)) (hi' : CV w 31 #[.int .i64 jn, .int .i64 0, .int .i64 (nl - 1)] (.bool true)) (m1 : w.cell? ⟨b2, o2 + jn, none⟩ = some (.int .i64 dy)) (hj : jn < n2) (hkc : k ≤ c1) (hm' : CV w 52 #[.agg #[.int .i64 o, .int .i64 t, .slice A nl c], .slice (some ⟨b1, o1, none⟩) k c1, .int .i64 la, .int .i64 jn, .int .i64 dy] (.bool mv)) : OpOk Try.prog opsTr1 (wordsTr1 b1 o1 b2 o2 b3 k jn A nl c n1 c1 n2 c2 o t la dy mv) 66 a w 28 := by
  refine OpOk.gen rfl (fun a1 w1 H => ?_)
  have d10 : a1.eval (.tmp 39) = .bool false := H.dep 10 39 rfl (by kernel_rfl)
  have d27 : a1.eval (.tmp 56) = .bool mv := H.dep 27 56 rfl (by kernel_rfl)
  refine gd_true rfl d10 ?_
  exact OpW.un d27 (not4 _ _) rfl
set_option maxRecDepth 10000 in
theorem okTr1_29 {b1 o1 b2 o2 b3 k jn : Nat} {A : Option Addr} {nl c n1 c1 n2 c2 : Nat} {o t la dy : Int} {mv : Bool} {a : Act} {w : World} (t1 : a.eval (.tmp 1) = .slice (some ⟨b1, o1, none⟩) n1 c1) (t2 : a.eval (.tmp 2) = .slice (some ⟨b2, o2, none⟩) n2 c2) (t3 : a.eval (.tmp 3) = .pointer (some ⟨b3, 0, none⟩)) (t7 : a.eval (.tmp 7) = .int .i64 la) (t8 : a.eval (.tmp 8) = .int .i64 k) (q0 : w.cell? ⟨b3, 0, none⟩ = some (.int .i64 o)) (q1 : w.cell? ⟨b3, 1, none⟩ = some (.int .i64 t)) (q2 : w.cell? ⟨b3, 2, none⟩ = some (.slice A nl c)) (hnl : nl ≤ 12) (hk : k < n1) (m0 : w.cell? ⟨b1, o1 + k, none⟩ = some (.int .i64 jn)) (hi' : CV w 31 #[.int .i64 jn, .int .i64 0, .int .i64 (nl - 1)] (.bool true)) (m1 : w.cell? ⟨b2, o2 + jn, none⟩ = some (.int .i64 dy)) (hj : jn < n2) (hkc : k ≤ c1) (hm' : CV w 52 #[.agg #[.int .i64 o, .int .i64 t, .slice A nl c], .slice (some ⟨b1, o1, none⟩) k c1, .int .i64 la, .int .i64 jn, .int .i64 dy] (.bool mv)) : OpOk Try.prog opsTr1 (wordsTr1 b1 o1 b2 o2 b3 k jn A nl c n1 c1 n2 c2 o t la dy mv) 66 a w 29 := by
  refine OpOk.gen rfl (fun a1 w1 H => ?_)
  have d10 : a1.eval (.tmp 39) = .bool false := H.dep 10 39 rfl (by kernel_rfl)
  have d28 : a1.eval (.tmp 57) = .bool (!mv) := H.dep 28 57 rfl (by kernel_rfl)
  refine gd_none ?_
  exact OpW.pick (b := false) d10 d28
set_option maxRecDepth 10000 in
theorem regionTr1 {F : Fence} {n : Nat} (hF : WideF F Try.prog) {Q : Exit → Act → World → Prop} {b1 o1 b2 o2 b3 k jn : Nat} {A : Option Addr} {nl c n1 c1 n2 c2 : Nat} {o t la dy : Int} {mv : Bool} {a : Act} {w : World} (hsz : a.tmps.size = 66)
    (t1 : a.eval (.tmp 1) = .slice (some ⟨b1, o1, none⟩) n1 c1) (t2 : a.eval (.tmp 2) = .slice (some ⟨b2, o2, none⟩) n2 c2) (t3 : a.eval (.tmp 3) = .pointer (some ⟨b3, 0, none⟩)) (t7 : a.eval (.tmp 7) = .int .i64 la) (t8 : a.eval (.tmp 8) = .int .i64 k) (q0 : w.cell? ⟨b3, 0, none⟩ = some (.int .i64 o)) (q1 : w.cell? ⟨b3, 1, none⟩ = some (.int .i64 t)) (q2 : w.cell? ⟨b3, 2, none⟩ = some (.slice A nl c)) (hnl : nl ≤ 12) (hk : k < n1) (m0 : w.cell? ⟨b1, o1 + k, none⟩ = some (.int .i64 jn)) (hi' : CV w 31 #[.int .i64 jn, .int .i64 0, .int .i64 (nl - 1)] (.bool true)) (m1 : w.cell? ⟨b2, o2 + jn, none⟩ = some (.int .i64 dy)) (hj : jn < n2) (hkc : k ≤ c1) (hm' : CV w 52 #[.agg #[.int .i64 o, .int .i64 t, .slice A nl c], .slice (some ⟨b1, o1, none⟩) k c1, .int .i64 la, .int .i64 jn, .int .i64 dy] (.bool mv))
    (hK : ∀ (a' : Act) (w' : World), a'.tmps.size = 66 → a'.defers = a.defers → Below w.heap.size w w' → (∀ e, ndstB opsTr1 e = true → a'.eval (.tmp e) = a.eval (.tmp e)) → (∀ (j d : Nat), (opsTr1[j]?).bind (·.dst) = some d → (wordsTr1 b1 o1 b2 o2 b3 k jn A nl c n1 c1 n2 c2 o t la dy mv).at_ j (a'.eval (.tmp d)) w') → Q .normal a' w') :
    (Code.region 7 opsTr1 true).wpIn F n Try.prog Q a w := by
  refine region_S (wordsTr1 b1 o1 b2 o2 b3 k jn A nl c n1 c1 n2 c2 o t la dy mv) 66 hF (by kernel_rfl) Try.mixed (by kernel_rfl) (by kernel_rfl) ?_ hsz 30 (by kernel_rfl) ?_ hK
  · exact ⟨(fun _ _ _ h _ => h), (fun _ _ _ h _ => h), (fun _ _ _ h _ => h), (fun _ _ _ h _ => h), (fun _ _ _ h _ => h), (fun _ _ _ h _ => h), (fun _ _ _ h _ => h), (fun _ _ _ h _ => h), (fun _ _ _ h _ => h), (fun _ _ _ h _ => h), (fun _ _ _ h _ => h), (fun _ _ _ h _ => h), (fun _ _ _ h _ => h), (fun _ _ _ h _ => h), (fun _ _ _ h _ => h), (fun _ _ _ h _ => h), (fun _ _ _ h _ => h), (fun _ _ _ h _ => h), (fun _ _ _ h _ => h), (fun _ _ _ h _ => h), (fun _ _ _ h _ => h), (fun _ _ _ h _ => h), (fun _ _ _ h _ => h), (fun _ _ _ h _ => h), (fun _ _ _ h _ => h), (fun _ _ _ h _ => h), (fun _ _ _ h _ => h), (fun _ _ _ h _ => h), (fun _ _ _ h _ => h), (fun _ _ _ h _ => h), trivial⟩
  · exact ⟨⟨⟨⟨⟨⟨⟨⟨⟨⟨⟨⟨⟨⟨⟨⟨⟨⟨⟨⟨⟨⟨⟨⟨⟨⟨⟨⟨⟨⟨trivial, okTr1_0 t1 t2 t3 t7 t8 q0 q1 q2 hnl hk m0 hi'.drew m1 hj hkc hm'.drew⟩, okTr1_1 t1 t2 t3 t7 t8 q0 q1 q2 hnl hk m0 hi'.drew m1 hj hkc hm'.drew⟩, okTr1_2 t1 t2 t3 t7 t8 q0 q1 q2 hnl hk m0 hi'.drew m1 hj hkc hm'.drew⟩, okTr1_3 t1 t2 t3 t7 t8 q0 q1 q2 hnl hk m0 hi'.drew m1 hj hkc hm'.drew⟩, okTr1_4 t1 t2 t3 t7 t8 q0 q1 q2 hnl hk m0 hi'.drew m1 hj hkc hm'.drew⟩, okTr1_5 t1 t2 t3 t7 t8 q0 q1 q2 hnl hk m0 hi'.drew m1 hj hkc hm'.drew⟩, okTr1_6 t1 t2 t3 t7 t8 q0 q1 q2 hnl hk m0 hi'.drew m1 hj hkc hm'.drew⟩, okTr1_7 t1 t2 t3 t7 t8 q0 q1 q2 hnl hk m0 hi'.drew m1 hj hkc hm'.drew⟩, okTr1_8 t1 t2 t3 t7 t8 q0 q1 q2 hnl hk m0 hi'.drew m1 hj hkc hm'.drew⟩, okTr1_9 t1 t2 t3 t7 t8 q0 q1 q2 hnl hk m0 hi'.drew m1 hj hkc hm'.drew⟩, okTr1_10 t1 t2 t3 t7 t8 q0 q1 q2 hnl hk m0 hi'.drew m1 hj hkc hm'.drew⟩, okTr1_11 t1 t2 t3 t7 t8 q0 q1 q2 hnl hk m0 hi'.drew m1 hj hkc hm'.drew⟩, okTr1_12 t1 t2 t3 t7 t8 q0 q1 q2 hnl hk m0 hi'.drew m1 hj hkc hm'.drew⟩, okTr1_13 t1 t2 t3 t7 t8 q0 q1 q2 hnl hk m0 hi'.drew m1 hj hkc hm'.drew⟩, okTr1_14 t1 t2 t3 t7 t8 q0 q1 q2 hnl hk m0 hi'.drew m1 hj hkc hm'.drew⟩, okTr1_15 t1 t2 t3 t7 t8 q0 q1 q2 hnl hk m0 hi'.drew m1 hj hkc hm'.drew⟩, okTr1_16 t1 t2 t3 t7 t8 q0 q1 q2 hnl hk m0 hi'.drew m1 hj hkc hm'.drew⟩, okTr1_17 t1 t2 t3 t7 t8 q0 q1 q2 hnl hk m0 hi'.drew m1 hj hkc hm'.drew⟩, okTr1_18 t1 t2 t3 t7 t8 q0 q1 q2 hnl hk m0 hi'.drew m1 hj hkc hm'.drew⟩, okTr1_19 t1 t2 t3 t7 t8 q0 q1 q2 hnl hk m0 hi'.drew m1 hj hkc hm'.drew⟩, okTr1_20 t1 t2 t3 t7 t8 q0 q1 q2 hnl hk m0 hi'.drew m1 hj hkc hm'.drew⟩, okTr1_21 t1 t2 t3 t7 t8 q0 q1 q2 hnl hk m0 hi'.drew m1 hj hkc hm'.drew⟩, okTr1_22 t1 t2 t3 t7 t8 q0 q1 q2 hnl hk m0 hi'.drew m1 hj hkc hm'.drew⟩, okTr1_23 t1 t2 t3 t7 t8 q0 q1 q2 hnl hk m0 hi'.drew m1 hj hkc hm'.drew⟩, okTr1_24 t1 t2 t3 t7 t8 q0 q1 q2 hnl hk m0 hi'.drew m1 hj hkc hm'.drew⟩, okTr1_25 t1 t2 t3 t7 t8 q0 q1 q2 hnl hk m0 hi'.drew m1 hj hkc hm'.drew⟩, okTr1_26 t1 t2 t3 t7 t8 q0 q1 q2 hnl hk m0 hi'.drew m1 hj hkc hm'.drew⟩, okTr1_27 t1 t2 t3 t7 t8 q0 q1 q2 hnl hk m0 hi'.drew m1 hj hkc hm'.drew⟩, okTr1_28 t1 t2 t3 t7 t8 q0 q1 q2 hnl hk m0 hi'.drew m1 hj hkc hm'.drew⟩, okTr1_29 t1 t2 t3 t7 t8 q0 q1 q2 hnl hk m0 hi'.drew m1 hj hkc hm'.drew⟩
noncomputable def roundTr : Code := .seq (.seq (.region 5 opsTr_5 false) (.cond (.tmp 26) .skip (.exit 0))) (.seq (.block 1 (.seq (.seq (.region 7 opsTr0 true) (.cond (.tmp 58) (.seq (.region 8 opsTr_8 false) .ret) .skip)) (.region 9 opsTr_9 false))) (.region 6 opsTr_6 false))
noncomputable def code22 : Code := .seq (.region 0 opsTr_0 false) (.seq (.seq (.region 1 opsTr_1 false) (.cond (.tmp 22) (.seq (.region 2 opsTr_2 false) .ret) .skip)) (.seq (.region 3 opsTr_3 false) (.seq (.seq (.region 4 opsTr_4 false) (.block 0 (.loop roundTr))) (.seq (.region 10 opsTr_10 false) .ret))))
theorem body22 : Try.f22.body = some code22 := by kernel_rfl
end Go.Proofs.Ytfcnombmphophaa

/-! Ql: The reference's IsTruth: its contract. -/
namespace Go.Proofs.Ytfcnombmphophaa
open Go.RowKit Go.Shelf
theorem cv_may {w : World} {o t la dy : Int} {A A1 : Option Addr} {l : List Sale} {done : List Int} {c c1 k m : Nat} {b : Bool} (hl : l.length ≤ 12) (hmd : m = done.length) (hd : done.length ≤ 12) (ht0 : 0 ≤ t) (ht : t ≤ 1000) (hm : ∀ s, s ∈ l → 0 ≤ s.many ∧ s.many ≤ 1000)
    (hdn : ∀ d, d ∈ done → 0 ≤ d ∧ d < l.length) (hk : k < l.length) (hs : SalesAt w w.heap.size A l) (h1 : IntsAt w w.heap.size A1 done) (hb : mayR t l done la k dy = b) :
    CV w 52 #[.agg #[.int .i64 o, .int .i64 t, .slice A l.length c], .slice A1 m c1, .int .i64 la, .int .i64 k, .int .i64 dy] (.bool b) := by
  subst hmd
  intro W1 hw
  refine (may_any o t A A1 l done c c1 k la dy W1 hl hd ht0 ht hm hdn hk ((hs.below hw (Nat.le_refl _)).more hw.size) ((h1.below hw (Nat.le_refl _)).more hw.size)).mono ?_
  rintro e w' ⟨rfl, hb'⟩
  exact ⟨_, rfl, by rw [hb], hb'⟩
set_option maxRecDepth 10000 in
set_option maxHeartbeats 2000000 in
theorem truth_any (o t : Int) (A A1 A2 : Option Addr) (l : List Sale) (ord dys : List Int) (c c1 c2 : Nat) (W : World) (hl : l.length ≤ 12) (hc1 : ord.length ≤ c1) (ho : ord.length ≤ 12) (hdl : dys.length ≤ 12) (ht0 : 0 ≤ t) (ht : t ≤ 1000) (hm : ∀ s, s ∈ l → 0 ≤ s.many ∧ s.many ≤ 1000)
    (hs : SalesAt W W.heap.size A l) (h1 : IntsAt W W.heap.size A1 ord) (h2 : IntsAt W W.heap.size A2 dys) :
    Calls Try.prog 22 #[.agg #[.int .i64 o, .int .i64 t, .slice A l.length c], .slice A1 ord.length c1, .slice A2 dys.length c2] W (TP W (truthB t l ord dys)) := by
  refine (callsIn_wide (n := 5)).1 (callsIn_of_wp Try.func22 body22 trivial ?_ rfl)
  obtain ⟨a, ha⟩ : ∃ a : Act, a = { tmps := #[.agg #[.int .i64 o, .int .i64 t, .slice A l.length c], .slice A1 ord.length c1, .slice A2 dys.length c2] ++ Array.replicate (Try.f22.ntmps - (#[.agg #[.int .i64 o, .int .i64 t, .slice A l.length c], .slice A1 ord.length c1, .slice A2 dys.length c2] : Array Value).size) undef, defers := [] } := ⟨_, rfl⟩
  have hsz : a.tmps.size = 66 := by rw [ha]; simp [Try.ntmps22]
  have t0 : a.eval (.tmp 0) = .agg #[.int .i64 o, .int .i64 t, .slice A l.length c] := by rw [ha]; simp [Act.eval]
  have t1 : a.eval (.tmp 1) = .slice A1 ord.length c1 := by rw [ha]; simp [Act.eval]
  have t2 : a.eval (.tmp 2) = .slice A2 dys.length c2 := by rw [ha]; simp [Act.eval]
  have hdf : a.defers = [] := by rw [ha]
  rw [← ha]
  clear ha
  have hret : ∀ (a' : Act) (W' : World) (v : Bool), a'.defers = [] → a'.eval (.tmp 6) = .bool v → Below W.heap.size W W' → v = truthB t l ord dys → bodyPost Try.prog Try.f22 (TP W (truthB t l ord dys)) .ret a' W' := fun a' W' v hd h4 hb he =>
    bodyPost_ret (v := .bool v) (res1 Try.results22 h4) hd ⟨by rw [he], hb⟩
  unfold code22
  refine wpIn_seq (region_l 2 (wideF_plain _) (by kernel_rfl) (by kernel_rfl) ?_)
  intro K hK
  refine ListK.box (i := 0) (u := .agg #[.int .i64 o, .int .i64 t, .slice A l.length c]) rfl (by simp [t0]) (bx24 W _ _ _ _ _) ?_
  refine ListK.assign (i := 1) (v := .bool false) rfl (by simp [ev_const]) ?_
  refine ListK.done (hK _ _ ?_)
  clear hK K
  have wb := Whole.new W 24 #[.int .i64 o, .int .i64 t, .slice A l.length c]
  have hB1 : Below W.heap.size W (W.alloc (.cells #[.int .i64 o, .int .i64 t, .slice A l.length c] 24)) := (Below.refl _ W).alloc (Nat.le_refl _) _
  have hS1 := hB1.size
  have hlt : W.heap.size < (W.alloc (.cells #[.int .i64 o, .int .i64 t, .slice A l.length c] 24)).heap.size := by simp
  generalize hb3 : W.heap.size = b3 at *
  generalize W.alloc (.cells #[.int .i64 o, .int .i64 t, .slice A l.length c] 24) = W1 at *
  have hs1 : SalesAt W1 W1.heap.size A l := (hs.below hB1 (Nat.le_refl _)).more hS1
  have h11 : IntsAt W1 W1.heap.size A1 ord := (h1.below hB1 (Nat.le_refl _)).more hS1
  have h21 : IntsAt W1 W1.heap.size A2 dys := (h2.below hB1 (Nat.le_refl _)).more hS1
  have q2' := wb.cell 2
  generalize hA : Act.put _ _ _ = a1
  have hz_a1 : a1.tmps.size = 66 := by rw [← hA]; simp only [size_put, hsz]
  have u1 : a1.eval (.tmp 1) = .slice A1 ord.length c1 := by rw [← hA]; exact (by simp [ev_ne, t1])
  have u2 : a1.eval (.tmp 2) = .slice A2 dys.length c2 := by rw [← hA]; exact (by simp [ev_ne, t2])
  have u3 : a1.eval (.tmp 3) = .pointer (some ⟨b3, 0, none⟩) := by rw [← hA]; exact (by simp [ev_same, ev_ne, hsz])
  have hd_a1 : a1.defers = [] := by rw [← hA]; simp only [defers_put, hdf]
  clear hA
  by_cases hlen : ord.length = l.length
  · by_cases hlen2 : dys.length = l.length
    · skip
      refine wpIn_seq (wpIn_seq (region_l 14 (wideF_plain _) (by kernel_rfl) (by kernel_rfl) ?_))
      intro K hK
      refine ListK.move (i := 0) (v := .slice A1 ord.length c1) rfl (by simp [u1]) ?_
      refine ListK.len (i := 1) (u := .slice A1 ord.length c1) (v := .int .i64 ord.length) rfl (by simp [ev_same, hz_a1]) (ln25 _ _ _ _ _) rfl ?_
      refine ListK.field (i := 2) (u := .pointer (some ⟨b3, 0, none⟩)) (v := .pointer (some ⟨b3, 2, none⟩)) rfl (by simp [ev_ne, u3]) (fa24_2 _) ?_
      refine ListK.load (i := 3) (p := ⟨b3, 2, none⟩) (v := .slice A l.length c) rfl (by simp [ev_same, size_put, hz_a1]) (ld22 (q2')) ?_
      refine ListK.len (i := 4) (u := .slice A l.length c) (v := .int .i64 l.length) rfl (by simp [ev_same, size_put, hz_a1]) (ln22 _ _ _ _ _) rfl ?_
      refine ListK.bin (i := 5) (u := .int .i64 ord.length) (u' := .int .i64 l.length) (v := .bool false) rfl (by simp [ev_same, ev_ne, size_put, hz_a1]) (by simp [ev_same, size_put, hz_a1]) (neqF (by omega) _) ?_
      refine ListK.move (i := 6) (v := .bool false) rfl (by simp [ev_same, size_put, hz_a1]) ?_
      refine ListK.move (i := 7) (v := .slice A2 dys.length c2) rfl (by simp [ev_ne, u2]) ?_ (hw := wanted_g (e := 15) (b' := false) rfl (by simp [ev_same, size_put, hz_a1]) rfl)
      refine ListK.lenW (i := 8) (u := .slice A2 dys.length c2) (v := .int .i64 dys.length) rfl (by simp [ev_same, size_put, hz_a1]) (ln25 _ _ _ _ _) rfl ?_ (hw := wanted_g (e := 15) (b' := false) rfl (by simp [ev_same, ev_ne, size_put, hz_a1]) rfl)
      refine ListK.field (i := 9) (u := .pointer (some ⟨b3, 0, none⟩)) (v := .pointer (some ⟨b3, 2, none⟩)) rfl (by simp [ev_ne, u3]) (fa24_2 _) ?_ (hw := wanted_g (e := 15) (b' := false) rfl (by simp [ev_same, ev_ne, size_put, hz_a1]) rfl)
      refine ListK.load (i := 10) (p := ⟨b3, 2, none⟩) (v := .slice A l.length c) rfl (by simp [ev_same, size_put, hz_a1]) (ld22 (q2')) ?_ (hw := wanted_g (e := 15) (b' := false) rfl (by simp [ev_same, ev_ne, size_put, hz_a1]) rfl)
      refine ListK.lenW (i := 11) (u := .slice A l.length c) (v := .int .i64 l.length) rfl (by simp [ev_same, size_put, hz_a1]) (ln22 _ _ _ _ _) rfl ?_ (hw := wanted_g (e := 15) (b' := false) rfl (by simp [ev_same, ev_ne, size_put, hz_a1]) rfl)
      refine ListK.bin (i := 12) (u := .int .i64 dys.length) (u' := .int .i64 l.length) (v := .bool false) rfl (by simp [ev_same, ev_ne, size_put, hz_a1]) (by simp [ev_same, size_put, hz_a1]) (neqF (by omega) _) ?_ (hw := wanted_g (e := 15) (b' := false) rfl (by simp [ev_same, ev_ne, size_put, hz_a1]) rfl)
      refine ListK.pick (i := 13) (b := false) (v := .bool false) rfl (by simp [ev_same, ev_ne, size_put, hz_a1]) (by simp [ev_same, size_put, hz_a1]) ?_
      refine ListK.done (hK _ _ ?_)
      clear hK K
      refine wpIn_cond (t := false) (by simp [ev_same, size_put, hz_a1]) (wpIn_skip ?_)
      show (Code.seq _ _).wpIn _ _ _ _ _ _
      generalize hA : Act.put _ _ _ = a2
      have hz_a2 : a2.tmps.size = 66 := by rw [← hA]; simp only [size_put, hz_a1]
      have v1 : a2.eval (.tmp 1) = .slice A1 ord.length c1 := by rw [← hA]; exact (by simp [ev_ne, u1])
      have v2 : a2.eval (.tmp 2) = .slice A2 dys.length c2 := by rw [← hA]; exact (by simp [ev_ne, u2])
      have v3 : a2.eval (.tmp 3) = .pointer (some ⟨b3, 0, none⟩) := by rw [← hA]; exact (by simp [ev_ne, u3])
      have hd_a2 : a2.defers = [] := by rw [← hA]; simp only [defers_put, hd_a1]
      clear hA
      refine wpIn_seq (region_l 1 (wideF_plain _) (by kernel_rfl) (by kernel_rfl) ?_)
      intro K hK
      refine ListK.assign (i := 0) (v := .int .i64 0) rfl (by simp [ev_const]) ?_
      refine ListK.done (hK _ _ ?_)
      clear hK K
      generalize hA : Act.put _ _ _ = a3
      have hz_a3 : a3.tmps.size = 66 := by rw [← hA]; simp only [size_put, hz_a2]
      have x1 : a3.eval (.tmp 1) = .slice A1 ord.length c1 := by rw [← hA]; exact (by simp [ev_ne, v1])
      have x2 : a3.eval (.tmp 2) = .slice A2 dys.length c2 := by rw [← hA]; exact (by simp [ev_ne, v2])
      have x3 : a3.eval (.tmp 3) = .pointer (some ⟨b3, 0, none⟩) := by rw [← hA]; exact (by simp [ev_ne, v3])
      have x7 : a3.eval (.tmp 7) = .int .i64 0 := by rw [← hA]; exact (by simp [ev_same, hz_a2])
      have hd_a3 : a3.defers = [] := by rw [← hA]; simp only [defers_put, hd_a2]
      clear hA
      refine wpIn_seq (wpIn_seq (region_l 1 (wideF_plain _) (by kernel_rfl) (by kernel_rfl) ?_))
      intro K hK
      refine ListK.assign (i := 0) (v := .int .i64 0) rfl (by simp [ev_const]) ?_
      refine ListK.done (hK _ _ ?_)
      clear hK K
      refine wpIn_block (wpIn_loop (fun a W' => ∃ (k : Nat) (la : Int), k ≤ ord.length ∧ a.tmps.size = 66 ∧ a.defers = [] ∧ a.eval (.tmp 1) = .slice A1 ord.length c1 ∧ a.eval (.tmp 2) = .slice A2 dys.length c2 ∧ a.eval (.tmp 3) = .pointer (some ⟨b3, 0, none⟩) ∧ a.eval (.tmp 7) = .int .i64 la ∧ a.eval (.tmp 8) = .int .i64 k ∧ Below W1.heap.size W1 W' ∧ isGo t l dys [] ord 0 = isGo t l dys (ord.take k) (ord.drop k) la ∧ (∀ d, d ∈ ord.take k → 0 ≤ d ∧ d < l.length)) (fun a _ => ord.length - (intOf (a.eval (.tmp 8))).toNat)
        ⟨0, 0, Nat.zero_le _, by simp only [size_put, hz_a3], by simp only [defers_put, hd_a3], (by simp [ev_ne, x1]), (by simp [ev_ne, x2]), (by simp [ev_ne, x3]), (by simp [ev_ne, x7]), (by simp [ev_same, hz_a3]), Below.refl _ _, rfl, fun d hd => by simp at hd⟩ ?_)
      clear hsz t0 t1 t2 hdf hz_a1 u1 u2 u3 hd_a1 hz_a2 v1 v2 v3 hd_a2 hz_a3 x1 x2 x3 x7 hd_a3 a a1 a2 a3
      rintro a W2 ⟨k, la, hk, hsz, hdf, t1, t2, t3, t7, t8, hb, hgo, hdn⟩
      refine wpIn_seq (wpIn_seq (region_l 4 (wideF_plain _) (by kernel_rfl) (by kernel_rfl) ?_))
      intro K hK
      refine ListK.move (i := 0) (v := .int .i64 k) rfl (by simp [t8]) ?_
      refine ListK.move (i := 1) (v := .slice A1 ord.length c1) rfl (by simp [ev_ne, t1]) ?_
      refine ListK.len (i := 2) (u := .slice A1 ord.length c1) (v := .int .i64 ord.length) rfl (by simp [ev_same, size_put, hsz]) (ln25 _ _ _ _ _) rfl ?_
      refine ListK.bin (i := 3) (u := .int .i64 k) (u' := .int .i64 (ord.length : Int)) (v := .bool (decide (k < (ord.length : Int)))) rfl (by simp [ev_same, ev_ne, hsz]) (by simp [ev_same, size_put, hsz]) (lss3 _) ?_
      refine ListK.done (hK _ _ ?_)
      clear hK K
      have hB2 := hB1.trans (hb.mono hS1)
      by_cases hkl : k < ord.length
      · refine wpIn_cond (t := true) (by simp [ev_same, size_put, hsz]; omega) (wpIn_skip ?_)
        generalize hA : Act.put _ _ _ = a1
        have hz_a1 : a1.tmps.size = 66 := by rw [← hA]; simp only [size_put, hsz]
        have u1 : a1.eval (.tmp 1) = .slice A1 ord.length c1 := by rw [← hA]; exact (by simp [ev_ne, t1])
        have u2 : a1.eval (.tmp 2) = .slice A2 dys.length c2 := by rw [← hA]; exact (by simp [ev_ne, t2])
        have u3 : a1.eval (.tmp 3) = .pointer (some ⟨b3, 0, none⟩) := by rw [← hA]; exact (by simp [ev_ne, t3])
        have u7 : a1.eval (.tmp 7) = .int .i64 la := by rw [← hA]; exact (by simp [ev_ne, t7])
        have u8 : a1.eval (.tmp 8) = .int .i64 k := by rw [← hA]; exact (by simp [ev_ne, t8])
        have hd_a1 : a1.defers = [] := by rw [← hA]; simp only [defers_put, hdf]
        clear hA
        have hs2 : SalesAt W2 W2.heap.size A l := (hs1.below hb (Nat.le_refl _)).more hb.size
        have h12 : IntsAt W2 W2.heap.size A1 ord := (h11.below hb (Nat.le_refl _)).more hb.size
        have h22 : IntsAt W2 W2.heap.size A2 dys := (h21.below hb (Nat.le_refl _)).more hb.size
        have wb2 := wb.below hb (by omega)
        have q0 : W2.cell? ⟨b3, 0, none⟩ = some (.int .i64 o) := wb2.cell 0
        have q1 : W2.cell? ⟨b3, 1, none⟩ = some (.int .i64 t) := wb2.cell 1
        have q2 : W2.cell? ⟨b3, 2, none⟩ = some (.slice A l.length c) := wb2.cell 2
        obtain ⟨b1, o1, hA1, hbb1, m0⟩ := h12 k ord[k] (List.getElem?_eq_getElem hkl)
        subst hA1
        have hstep := isGo_step (t := t) (l := l) (dys := dys) (la := la) hkl
        rw [← hgo] at hstep
        have htk := List.take_succ_eq_append_getElem hkl
        generalize ord[k] = n0 at *
        show (Code.seq _ _).wpIn _ _ _ _ _ _
        cases hI : inR n0 0 ((l.length : Int) - 1) with
        | false =>
          refine wpIn_seq (wpIn_block (wpIn_seq (wpIn_seq (regionTr0 (wideF_plain _) hz_a1 u1 u2 u3 u7 u8 q0 q1 q2 hl hkl m0 (cv_in hI) ?_))))
          intro a2 W3 hz2 hd2 hb3' hr hw
          have v58 : a2.eval (.tmp 58) = .bool true := hw 29 58 (by kernel_rfl)
          refine wpIn_cond (t := true) v58 ?_
          refine wpIn_seq (region_l 1 (wideF_plain _) (by kernel_rfl) (by kernel_rfl) ?_)
          intro K hK
          refine ListK.assign (i := 0) (v := .bool false) rfl (by simp [ev_const]) ?_
          refine ListK.done (hK _ _ (wpIn_ret ?_))
          show bodyPost Try.prog Try.f22 (TP W (truthB t l ord dys)) Exit.ret _ _
          refine hret _ _ false (by simp only [defers_put, hd2, hd_a1]) (by simp [ev_same, hz2]) (hB2.trans (hb3'.mono (by have := hB2.size; omega))) ?_
          rw [truthB, hstep, hI]
          simp
        | true =>
          have hin := inR_iff.1 hI
          obtain ⟨jn, rfl⟩ : ∃ j : Nat, n0 = j := ⟨n0.toNat, by omega⟩
          have hjl : jn < l.length := by omega
          have hjd : jn < dys.length := by omega
          obtain ⟨b2, o2, hA2, hbb2, m1⟩ := h22 jn dys[jn] (List.getElem?_eq_getElem hjd)
          subst hA2
          have hdy : (dys[((jn : Int)).toNat]?).getD 0 = dys[jn] := by
            rw [Int.toNat_natCast, List.getElem?_eq_getElem hjd]
            rfl
          rw [hdy, hI, Bool.true_and] at hstep
          generalize dys[jn] = dy at *
          have htl : (ord.take k).length = k := by rw [List.length_take]; omega
          refine wpIn_seq (wpIn_block (wpIn_seq (wpIn_seq (regionTr1 (wideF_plain _) hz_a1 u1 u2 u3 u7 u8 q0 q1 q2 hl hkl m0 (cv_in hI) m1 hjd (by omega) (cv_may (m := k) hl htl.symm (by omega) ht0 ht hm hdn hjl hs2 (h12.take k) rfl) ?_))))
          intro a2 W3 hz2 hd2 hb3' hr hw
          generalize hmv : mayR t l (ord.take k) la (jn : Int) dy = mv at *
          have v58 : a2.eval (.tmp 58) = .bool (!mv) := hw 29 58 (by kernel_rfl)
          have hB3 := hB2.trans (hb3'.mono (by have := hB2.size; omega))
          cases mv with
          | false =>
            refine wpIn_cond (t := true) v58 ?_
            refine wpIn_seq (region_l 1 (wideF_plain _) (by kernel_rfl) (by kernel_rfl) ?_)
            intro K hK
            refine ListK.assign (i := 0) (v := .bool false) rfl (by simp [ev_const]) ?_
            refine ListK.done (hK _ _ (wpIn_ret ?_))
            show bodyPost Try.prog Try.f22 (TP W (truthB t l ord dys)) Exit.ret _ _
            refine hret _ _ false (by simp only [defers_put, hd2, hd_a1]) (by simp [ev_same, hz2]) hB3 ?_
            rw [truthB, hstep]
            simp
          | true =>
            refine wpIn_cond (t := false) v58 (wpIn_skip ?_)
            have w1 := (hr 1 (by kernel_rfl)).trans u1
            have w2 := (hr 2 (by kernel_rfl)).trans u2
            have w3 := (hr 3 (by kernel_rfl)).trans u3
            have w8 := (hr 8 (by kernel_rfl)).trans u8
            have m0' := (hb3'.cell (p := ⟨b1, o1 + k, none⟩) hbb1).trans m0
            have m1' := (hb3'.cell (p := ⟨b2, o2 + jn, none⟩) hbb2).trans m1
            show (Code.region 9 opsTr_9 false).wpIn _ _ _ _ _ _
            refine region_l 8 (wideF_plain _) (by kernel_rfl) (by kernel_rfl) ?_
            intro K9 hK9
            refine ListK.move (i := 0) (v := .slice (some ⟨b2, o2, none⟩) dys.length c2) rfl (by simp [w2]) ?_
            refine ListK.move (i := 1) (v := .slice (some ⟨b1, o1, none⟩) ord.length c1) rfl (by simp [ev_ne, w1]) ?_
            refine ListK.move (i := 2) (v := .int .i64 k) rfl (by simp [ev_ne, w8]) ?_
            refine ListK.index (i := 3) (u := .slice (some ⟨b1, o1, none⟩) ord.length c1) (u' := .int .i64 k) (v := .pointer (some ⟨b1, o1 + k, none⟩)) rfl (by simp [ev_same, ev_ne, size_put, hz2]) (by simp [ev_same, size_put, hz2]) (ix25o hkl _) ?_
            refine ListK.load (i := 4) (p := ⟨b1, o1 + k, none⟩) (v := .int .i64 jn) rfl (by simp [ev_same, size_put, hz2]) (ld3 (m0')) ?_
            refine ListK.index (i := 5) (u := .slice (some ⟨b2, o2, none⟩) dys.length c2) (u' := .int .i64 jn) (v := .pointer (some ⟨b2, o2 + jn, none⟩)) rfl (by simp [ev_same, ev_ne, hz2]) (by simp [ev_same, size_put, hz2]) (ix25o hjd _) ?_
            refine ListK.load (i := 6) (p := ⟨b2, o2 + jn, none⟩) (v := .int .i64 dy) rfl (by simp [ev_same, size_put, hz2]) (ld3 (m1')) ?_
            refine ListK.assign (i := 7) (v := .int .i64 dy) rfl (by simp [ev_same, size_put, hz2]) ?_
            refine ListK.done (hK9 _ _ ?_)
            generalize hA : Act.put _ _ _ = a4
            have hz_a4 : a4.tmps.size = 66 := by rw [← hA]; simp only [size_put, hz2]
            have y1 : a4.eval (.tmp 1) = .slice (some ⟨b1, o1, none⟩) ord.length c1 := by rw [← hA]; exact (by simp [ev_ne, w1])
            have y2 : a4.eval (.tmp 2) = .slice (some ⟨b2, o2, none⟩) dys.length c2 := by rw [← hA]; exact (by simp [ev_ne, w2])
            have y3 : a4.eval (.tmp 3) = .pointer (some ⟨b3, 0, none⟩) := by rw [← hA]; exact (by simp [ev_ne, w3])
            have y7 : a4.eval (.tmp 7) = .int .i64 dy := by rw [← hA]; exact (by simp [ev_same, size_put, hz2])
            have y8 : a4.eval (.tmp 8) = .int .i64 k := by rw [← hA]; exact (by simp [ev_ne, w8])
            have hd_a4 : a4.defers = [] := by rw [← hA]; simp only [defers_put, hd2, hd_a1]
            clear hA
            show (Code.region 6 opsTr_6 false).wpIn _ _ _ _ _ _
            refine region_l 3 (wideF_plain _) (by kernel_rfl) (by kernel_rfl) ?_
            intro K hK
            refine ListK.move (i := 0) (v := .int .i64 k) rfl (by simp [y8]) ?_
            refine ListK.bin (i := 1) (u := .int .i64 k) (u' := .int .i64 1) (v := .int .i64 (k + 1)) rfl (by simp [ev_same, hz_a4]) (by simp [ev_const]) (add3 (by omega) (by omega) _) ?_
            refine ListK.assign (i := 2) (v := .int .i64 ((k + 1 : Nat) : Int)) rfl (by simp [ev_same, size_put, hz_a4]) ?_
            skip
            have hmu : ∀ b : Act, b.eval (.tmp 8) = .int .i64 ((k + 1 : Nat) : Int) → ord.length - (intOf (b.eval (.tmp 8))).toNat < ord.length - (intOf (a.eval (.tmp 8))).toNat := by
              intro b e
              rw [e, t8]
              simp only [intOf]
              omega
            refine ListK.done (hK _ _ ⟨⟨k + 1, dy, by omega, by simp only [size_put, hz_a4], by simp only [defers_put, hd_a4], (by simp [ev_ne, y1]), (by simp [ev_ne, y2]), (by simp [ev_ne, y3]), (by simp [ev_ne, y7]), (by simp [ev_same, size_put, hz_a4]), hb.trans (hb3'.mono hb.size), by rw [hstep, Bool.true_and], ?_⟩, hmu _ (by simp [ev_same, size_put, hz_a4])⟩)
            intro d hd
            rw [htk, List.mem_append, List.mem_singleton] at hd
            rcases hd with hd | rfl
            · exact hdn d hd
            · exact ⟨by omega, by omega⟩
      · obtain rfl : k = ord.length := by omega
        refine wpIn_cond (t := false) (by simp [ev_same, size_put, hsz]) (wpIn_exit ?_)
        generalize hA : Act.put _ _ _ = a1
        have hz_a1 : a1.tmps.size = 66 := by rw [← hA]; simp only [size_put, hsz]
        have u1 : a1.eval (.tmp 1) = .slice A1 ord.length c1 := by rw [← hA]; exact (by simp [ev_ne, t1])
        have u2 : a1.eval (.tmp 2) = .slice A2 dys.length c2 := by rw [← hA]; exact (by simp [ev_ne, t2])
        have hd_a1 : a1.defers = [] := by rw [← hA]; simp only [defers_put, hdf]
        clear hA
        show (Code.seq _ _).wpIn _ _ _ _ _ _
        refine wpIn_seq (region_l 1 (wideF_plain _) (by kernel_rfl) (by kernel_rfl) ?_)
        intro K hK
        refine ListK.assign (i := 0) (v := .bool true) rfl (by simp [ev_const]) ?_
        refine ListK.done (hK _ _ (wpIn_ret ?_))
        show bodyPost Try.prog Try.f22 (TP W (truthB t l ord dys)) Exit.ret _ _
        exact hret _ _ true (by simp only [defers_put, hd_a1]) (by simp [ev_same, hz_a1]) hB2 (by rw [truthB, hgo, List.drop_length]; simp [isGo, hlen, hlen2])
    · skip
      refine wpIn_seq (wpIn_seq (region_l 14 (wideF_plain _) (by kernel_rfl) (by kernel_rfl) ?_))
      intro K hK
      refine ListK.move (i := 0) (v := .slice A1 ord.length c1) rfl (by simp [u1]) ?_
      refine ListK.len (i := 1) (u := .slice A1 ord.length c1) (v := .int .i64 ord.length) rfl (by simp [ev_same, hz_a1]) (ln25 _ _ _ _ _) rfl ?_
      refine ListK.field (i := 2) (u := .pointer (some ⟨b3, 0, none⟩)) (v := .pointer (some ⟨b3, 2, none⟩)) rfl (by simp [ev_ne, u3]) (fa24_2 _) ?_
      refine ListK.load (i := 3) (p := ⟨b3, 2, none⟩) (v := .slice A l.length c) rfl (by simp [ev_same, size_put, hz_a1]) (ld22 (q2')) ?_
      refine ListK.len (i := 4) (u := .slice A l.length c) (v := .int .i64 l.length) rfl (by simp [ev_same, size_put, hz_a1]) (ln22 _ _ _ _ _) rfl ?_
      refine ListK.bin (i := 5) (u := .int .i64 ord.length) (u' := .int .i64 l.length) (v := .bool false) rfl (by simp [ev_same, ev_ne, size_put, hz_a1]) (by simp [ev_same, size_put, hz_a1]) (neqF (by omega) _) ?_
      refine ListK.move (i := 6) (v := .bool false) rfl (by simp [ev_same, size_put, hz_a1]) ?_
      refine ListK.move (i := 7) (v := .slice A2 dys.length c2) rfl (by simp [ev_ne, u2]) ?_ (hw := wanted_g (e := 15) (b' := false) rfl (by simp [ev_same, size_put, hz_a1]) rfl)
      refine ListK.lenW (i := 8) (u := .slice A2 dys.length c2) (v := .int .i64 dys.length) rfl (by simp [ev_same, size_put, hz_a1]) (ln25 _ _ _ _ _) rfl ?_ (hw := wanted_g (e := 15) (b' := false) rfl (by simp [ev_same, ev_ne, size_put, hz_a1]) rfl)
      refine ListK.field (i := 9) (u := .pointer (some ⟨b3, 0, none⟩)) (v := .pointer (some ⟨b3, 2, none⟩)) rfl (by simp [ev_ne, u3]) (fa24_2 _) ?_ (hw := wanted_g (e := 15) (b' := false) rfl (by simp [ev_same, ev_ne, size_put, hz_a1]) rfl)
      refine ListK.load (i := 10) (p := ⟨b3, 2, none⟩) (v := .slice A l.length c) rfl (by simp [ev_same, size_put, hz_a1]) (ld22 (q2')) ?_ (hw := wanted_g (e := 15) (b' := false) rfl (by simp [ev_same, ev_ne, size_put, hz_a1]) rfl)
      refine ListK.lenW (i := 11) (u := .slice A l.length c) (v := .int .i64 l.length) rfl (by simp [ev_same, size_put, hz_a1]) (ln22 _ _ _ _ _) rfl ?_ (hw := wanted_g (e := 15) (b' := false) rfl (by simp [ev_same, ev_ne, size_put, hz_a1]) rfl)
      refine ListK.bin (i := 12) (u := .int .i64 dys.length) (u' := .int .i64 l.length) (v := .bool true) rfl (by simp [ev_same, ev_ne, size_put, hz_a1]) (by simp [ev_same, size_put, hz_a1]) (neqT (by omega) _) ?_ (hw := wanted_g (e := 15) (b' := false) rfl (by simp [ev_same, ev_ne, size_put, hz_a1]) rfl)
      refine ListK.pick (i := 13) (b := false) (v := .bool true) rfl (by simp [ev_same, ev_ne, size_put, hz_a1]) (by simp [ev_same, size_put, hz_a1]) ?_
      refine ListK.done (hK _ _ ?_)
      clear hK K
      refine wpIn_cond (t := true) (by simp [ev_same, size_put, hz_a1]) ?_
      generalize hA : Act.put _ _ _ = a2
      have hz_a2 : a2.tmps.size = 66 := by rw [← hA]; simp only [size_put, hz_a1]
      have v1 : a2.eval (.tmp 1) = .slice A1 ord.length c1 := by rw [← hA]; exact (by simp [ev_ne, u1])
      have hd_a2 : a2.defers = [] := by rw [← hA]; simp only [defers_put, hd_a1]
      clear hA
      refine wpIn_seq (region_l 1 (wideF_plain _) (by kernel_rfl) (by kernel_rfl) ?_)
      intro K hK
      refine ListK.assign (i := 0) (v := .bool false) rfl (by simp [ev_const]) ?_
      refine ListK.done (hK _ _ (wpIn_ret ?_))
      show bodyPost Try.prog Try.f22 (TP W (truthB t l ord dys)) Exit.ret _ _
      exact hret _ _ false (by simp only [defers_put, hd_a2]) (by simp [ev_same, hz_a2]) hB1 (by rw [truthB]; simp [hlen2])
  · skip
    refine wpIn_seq (wpIn_seq (region_l 14 (wideF_plain _) (by kernel_rfl) (by kernel_rfl) ?_))
    intro K hK
    refine ListK.move (i := 0) (v := .slice A1 ord.length c1) rfl (by simp [u1]) ?_
    refine ListK.len (i := 1) (u := .slice A1 ord.length c1) (v := .int .i64 ord.length) rfl (by simp [ev_same, hz_a1]) (ln25 _ _ _ _ _) rfl ?_
    refine ListK.field (i := 2) (u := .pointer (some ⟨b3, 0, none⟩)) (v := .pointer (some ⟨b3, 2, none⟩)) rfl (by simp [ev_ne, u3]) (fa24_2 _) ?_
    refine ListK.load (i := 3) (p := ⟨b3, 2, none⟩) (v := .slice A l.length c) rfl (by simp [ev_same, size_put, hz_a1]) (ld22 (q2')) ?_
    refine ListK.len (i := 4) (u := .slice A l.length c) (v := .int .i64 l.length) rfl (by simp [ev_same, size_put, hz_a1]) (ln22 _ _ _ _ _) rfl ?_
    refine ListK.bin (i := 5) (u := .int .i64 ord.length) (u' := .int .i64 l.length) (v := .bool true) rfl (by simp [ev_same, ev_ne, size_put, hz_a1]) (by simp [ev_same, size_put, hz_a1]) (neqT (by omega) _) ?_
    refine ListK.move (i := 6) (v := .bool true) rfl (by simp [ev_same, size_put, hz_a1]) ?_
    refine ListK.passG (i := 7) (e := 15) (b' := true) rfl rfl (by simp [ev_same, size_put, hz_a1]) rfl ?_
    refine ListK.passG (i := 8) (e := 15) (b' := true) rfl rfl (by simp [ev_same, ev_ne, size_put, hz_a1]) rfl ?_
    refine ListK.passG (i := 9) (e := 15) (b' := true) rfl rfl (by simp [ev_same, ev_ne, size_put, hz_a1]) rfl ?_
    refine ListK.passG (i := 10) (e := 15) (b' := true) rfl rfl (by simp [ev_same, ev_ne, size_put, hz_a1]) rfl ?_
    refine ListK.passG (i := 11) (e := 15) (b' := true) rfl rfl (by simp [ev_same, ev_ne, size_put, hz_a1]) rfl ?_
    refine ListK.passG (i := 12) (e := 15) (b' := true) rfl rfl (by simp [ev_same, ev_ne, size_put, hz_a1]) rfl ?_
    refine ListK.pick (i := 13) (b := true) (v := .bool true) rfl (by simp [ev_same, ev_ne, size_put, hz_a1]) (by simp [ev_const]) ?_
    refine ListK.done (hK _ _ ?_)
    clear hK K
    refine wpIn_cond (t := true) (by simp [ev_same, size_put, hz_a1]) ?_
    generalize hA : Act.put _ _ _ = a2
    have hz_a2 : a2.tmps.size = 66 := by rw [← hA]; simp only [size_put, hz_a1]
    have v1 : a2.eval (.tmp 1) = .slice A1 ord.length c1 := by rw [← hA]; exact (by simp [ev_ne, u1])
    have hd_a2 : a2.defers = [] := by rw [← hA]; simp only [defers_put, hd_a1]
    clear hA
    refine wpIn_seq (region_l 1 (wideF_plain _) (by kernel_rfl) (by kernel_rfl) ?_)
    intro K hK
    refine ListK.assign (i := 0) (v := .bool false) rfl (by simp [ev_const]) ?_
    refine ListK.done (hK _ _ (wpIn_ret ?_))
    show bodyPost Try.prog Try.f22 (TP W (truthB t l ord dys)) Exit.ret _ _
    exact hret _ _ false (by simp only [defers_put, hd_a2]) (by simp [ev_same, hz_a2]) hB1 (by rw [truthB]; simp [hlen])
end Go.Proofs.Ytfcnombmphophaa

/-! Qm: Batch: the reference's batch for the program. -/
namespace Go.Proofs.Ytfcnombmphophaa
open Go.RowKit Go.Shelf
/-- The memory of Batch: the batch at block h, the result at h + 1, what is made at h + 2; a list of sales that is owned. -/
structure BtM (w : World) (h : Nat) (o t : Int) (A : Option Addr) (n c : Nat) (v : Value) (xs : List Sale) (W : World) : Prop where
  kb : Whole W h 24 #[.int .i64 o, .int .i64 t, .slice A n c]
  kr : Whole W (h + 1) 31 #[.int .i64 0, .int .i64 0, .slice none 0 0]
  kx : Whole W (h + 2) 31 #[.int .i64 o, .int .i64 t, v]
  low : Below h w W
  own : W.ownsRow (h + 3) 61 5 v xs.length (salesL xs)
section
variable {w W W' : World} {h : Nat} {o t : Int} {A : Option Addr} {n c : Nat} {v : Value} {xs : List Sale}
theorem BtM.base (b : BtM w h o t A n c v xs W) : h + 3 ≤ W.heap.size := b.kx.lt
theorem BtM.below (b : BtM w h o t A n c v xs W) (hb : Below W.heap.size W W') : BtM w h o t A n c v xs W' :=
  ⟨b.kb.below hb b.kb.lt, b.kr.below hb b.kr.lt, b.kx.below hb b.kx.lt, b.low.trans (hb.mono (by have := b.base; omega)), b.own.kept (grown_of_below hb) (by cases v.ownBlock <;> simp)⟩
theorem BtM.far (b : BtM w h o t A n c v xs W) {g : Nat} (hg : g < h + 3) : some g ≠ v.ownBlock := fun e => by have := (b.own.lt g e.symm).1; omega
theorem BtM.put (b : BtM w h o t A n c v xs W) {g cap : Nat} {s : Sale} (hown : W'.ownsRow (h + 3) 61 5 (.slice (some ⟨g, 0, none⟩) (xs.length + 1) cap) (xs.length + 1) (salesL xs ++ saleL s)) (hgr : W.grownBy W' v.ownBlock) :
    BtM w h o t A n c (.slice (some ⟨g, 0, none⟩) (xs.length + 1) cap) (xs ++ [s]) (W'.setCell ⟨h + 2, 2, none⟩ (.slice (some ⟨g, 0, none⟩) (xs.length + 1) cap)) := by
  have k0 : Whole W' h 24 _ := (hgr.block _ b.kb.lt (b.far (by omega))).trans b.kb
  have k1 : Whole W' (h + 1) 31 _ := (hgr.block _ b.kr.lt (b.far (by omega))).trans b.kr
  have k2 : Whole W' (h + 2) 31 _ := (hgr.block _ b.kx.lt (b.far (by omega))).trans b.kx
  have hlo : Below h w W' := b.low.grown hgr (by have := b.base; omega) (fun k e => by have := (b.own.lt k e).1; omega)
  refine ⟨k0.far (by simp) _, k1.far (by simp) _, k2.set 2 _, hlo.setCell (p := ⟨h + 2, 2, none⟩) (by simp) _, ?_⟩
  rw [salesL_app]
  refine World.ownsRow.kept ?_ (grown_set W' ⟨h + 2, 2, none⟩ _) (.inr ?_)
  · simpa using hown
  · intro e
    have hg : g = h + 2 := by simpa [Value.ownBlock] using e
    have := (hown.lt g rfl).1
    omega
end
theorem bd46r (x y : Int) (w : World) : (Instr.build 46 #[(0, .int .i64 x), (1, .int .i64 y)]).run Try.prog w = .ok (.agg #[.int .i64 x, .int .i64 y]) w := by
  go_simp
theorem bd61r (s : Sale) (w : World) : (Instr.build 61 #[(0, .int .i64 s.src), (1, .int .i64 s.dst), (2, .int .i64 s.many), (3, .agg #[.int .i64 s.lo, .int .i64 s.hi])]).run Try.prog w = .ok (saleV s) w := by
  unfold saleV
  go_simp
noncomputable def opsBa0 : Array Oper := (Try.f18.body.bind (regionOf 0)).getD #[]
noncomputable def opsBa1 : Array Oper := (Try.f18.body.bind (regionOf 1)).getD #[]
noncomputable def opsBa2 : Array Oper := (Try.f18.body.bind (regionOf 2)).getD #[]
noncomputable def opsBa3 : Array Oper := (Try.f18.body.bind (regionOf 3)).getD #[]
noncomputable def opsBa4 : Array Oper := (Try.f18.body.bind (regionOf 4)).getD #[]
noncomputable def opsBa5 : Array Oper := (Try.f18.body.bind (regionOf 5)).getD #[]
noncomputable def opsBa6 : Array Oper := (Try.f18.body.bind (regionOf 6)).getD #[]
noncomputable def opsBa7 : Array Oper := (Try.f18.body.bind (regionOf 7)).getD #[]
noncomputable def roundBa : Code := .seq (.seq (.region 3 opsBa3 false) (.cond (.tmp 15) .skip (.exit 0))) (.seq (.block 1 (.seq (.region 5 opsBa5 false) (.region 6 opsBa6 false))) (.region 4 opsBa4 false))
noncomputable def code18 : Code := .seq (.region 0 opsBa0 false) (.seq (.region 1 opsBa1 false) (.seq (.seq (.region 2 opsBa2 false) (.block 0 (.loop roundBa))) (.seq (.region 7 opsBa7 false) .ret)))
theorem body18 : Try.f18.body = some code18 := by kernel_rfl
set_option maxRecDepth 10000 in
set_option maxHeartbeats 2000000 in
theorem batch_any (o t : Int) (A : Option Addr) (l : List Sale) (c : Nat) (W : World) (hl : l.length ≤ 60) (hs : SalesAt W W.heap.size A l) :
    Calls Try.prog 18 #[.agg #[.int .i64 o, .int .i64 t, .slice A l.length c]] W
      fun e w' => ∃ A' c', e = .returned (.agg #[.int .i64 o, .int .i64 t, .slice A' l.length c']) ∧ SalesAt w' w'.heap.size A' l ∧ Below W.heap.size W w' := by
  refine (callsIn_wide (n := 5)).1 (callsIn_of_wp Try.func18 body18 trivial ?_ rfl)
  obtain ⟨a, ha⟩ : ∃ a : Act, a = { tmps := #[.agg #[.int .i64 o, .int .i64 t, .slice A l.length c]] ++ Array.replicate (Try.f18.ntmps - (#[.agg #[.int .i64 o, .int .i64 t, .slice A l.length c]] : Array Value).size) undef, defers := [] } := ⟨_, rfl⟩
  have hsz : a.tmps.size = 43 := by rw [ha]; simp [Try.ntmps18]
  have t0 : a.eval (.tmp 0) = .agg #[.int .i64 o, .int .i64 t, .slice A l.length c] := by rw [ha]; simp [Act.eval]
  have hdf : a.defers = [] := by rw [ha]
  rw [← ha]
  clear ha
  unfold code18
  refine wpIn_seq (region_l 2 (wideF_plain _) (by kernel_rfl) (by kernel_rfl) ?_)
  intro K hK
  refine ListK.box (i := 0) (u := .agg #[.int .i64 o, .int .i64 t, .slice A l.length c]) rfl (by simp [t0]) (bx24 W _ _ _ _ _) ?_
  refine ListK.alloc (i := 1) rfl (al31 _) ?_
  refine ListK.done (hK _ _ ?_)
  clear hK K
  generalize hA : Act.put _ _ _ = a1
  have hz_a1 : a1.tmps.size = 43 := by rw [← hA]; simp only [size_put, hsz]
  have u1 : a1.eval (.tmp 1) = .pointer (some ⟨W.heap.size, 0, none⟩) := by rw [← hA]; exact (by simp [ev_same, ev_ne, hsz])
  have u2 : a1.eval (.tmp 2) = .pointer (some ⟨(W.alloc (.cells #[.int .i64 o, .int .i64 t, .slice A l.length c] 24)).heap.size, 0, none⟩) := by rw [← hA]; exact (by simp [ev_same, size_put, hsz])
  have hd_a1 : a1.defers = [] := by rw [← hA]; simp only [defers_put, hdf]
  clear hA
  rw [World.size_alloc] at u2
  have wb := (Whole.new W 24 #[.int .i64 o, .int .i64 t, .slice A l.length c]).alloc (.cells #[.int .i64 0, .int .i64 0, .slice none 0 0] 31)
  have wr := Whole.new (W.alloc (.cells #[.int .i64 o, .int .i64 t, .slice A l.length c] 24)) 31 #[.int .i64 0, .int .i64 0, .slice none 0 0]
  have hB1 : Below W.heap.size W ((W.alloc (.cells #[.int .i64 o, .int .i64 t, .slice A l.length c] 24)).alloc (.cells #[.int .i64 0, .int .i64 0, .slice none 0 0] 31)) := ((Below.refl _ W).alloc (Nat.le_refl _) _).alloc (by simp) _
  have hz1 : ((W.alloc (.cells #[.int .i64 o, .int .i64 t, .slice A l.length c] 24)).alloc (.cells #[.int .i64 0, .int .i64 0, .slice none 0 0] 31)).heap.size = W.heap.size + 2 := by simp
  rw [World.size_alloc] at wr
  generalize hh : W.heap.size = h at *
  generalize (W.alloc (.cells #[.int .i64 o, .int .i64 t, .slice A l.length c] 24)).alloc (.cells #[.int .i64 0, .int .i64 0, .slice none 0 0] 31) = W1 at *
  refine wpIn_seq (region_l 7 (wideF_plain _) (by kernel_rfl) (by kernel_rfl) ?_)
  intro K hK
  refine ListK.field (i := 0) (u := .pointer (some ⟨h, 0, none⟩)) (v := .pointer (some ⟨h, 0, none⟩)) rfl (by simp [u1]) (fa24_0 _) ?_
  refine ListK.load (i := 1) (p := ⟨h, 0, none⟩) (v := .int .i64 o) rfl (by simp [ev_same, hz_a1]) (ld3 (wb.cell 0)) ?_
  refine ListK.field (i := 2) (u := .pointer (some ⟨h, 0, none⟩)) (v := .pointer (some ⟨h, 1, none⟩)) rfl (by simp [ev_ne, u1]) (fa24_1 _) ?_
  refine ListK.load (i := 3) (p := ⟨h, 1, none⟩) (v := .int .i64 t) rfl (by simp [ev_same, size_put, hz_a1]) (ld3 (wb.cell 1)) ?_
  refine ListK.bld (i := 4) (ps := #[(0, .int .i64 o), (1, .int .i64 t)]) (v := .agg #[.int .i64 o, .int .i64 t, .slice none 0 0]) rfl (by simp [ev_same, ev_ne, size_put, hz_a1]) (bd31 _ _ _) ?_
  refine ListK.alloc (i := 5) rfl (al31 W1) ?_
  refine ListK.store (i := 6) (u := .pointer (some ⟨W1.heap.size, 0, none⟩)) (u' := .agg #[.int .i64 o, .int .i64 t, .slice none 0 0]) rfl (by simp [ev_same, size_put, hz_a1]) (by simp [ev_same, ev_ne, size_put, hz_a1]) (st31n W1 _ _ _ _ _) ?_
  refine ListK.done (hK _ _ ?_)
  clear hK K
  generalize hA : Act.put _ _ _ = a2
  have hz_a2 : a2.tmps.size = 43 := by rw [← hA]; simp only [size_put, hz_a1]
  have v1 : a2.eval (.tmp 1) = .pointer (some ⟨h, 0, none⟩) := by rw [← hA]; exact (by simp [ev_ne, u1])
  have v2 : a2.eval (.tmp 2) = .pointer (some ⟨h + 1, 0, none⟩) := by rw [← hA]; exact (by simp [ev_ne, u2])
  have v3 : a2.eval (.tmp 3) = .pointer (some ⟨W1.heap.size, 0, none⟩) := by rw [← hA]; exact (by simp [ev_same, size_put, hz_a1])
  have hd_a2 : a2.defers = [] := by rw [← hA]; simp only [defers_put, hd_a1]
  clear hA
  have hm : BtM W h o t A l.length c (.slice none 0 0) [] (W1.alloc (.cells #[.int .i64 o, .int .i64 t, .slice none 0 0] 31)) := by
    refine ⟨wb.alloc _, wr.alloc _, ?_, hB1.alloc (by omega) _, World.ownsRow_nil _ _ _ _⟩
    have := Whole.new W1 31 #[.int .i64 o, .int .i64 t, .slice none 0 0]
    rwa [hz1] at this
  generalize W1.alloc (.cells #[.int .i64 o, .int .i64 t, .slice none 0 0] 31) = W2 at *
  rw [hz1] at v3
  refine wpIn_seq (wpIn_seq (region_l 1 (wideF_plain _) (by kernel_rfl) (by kernel_rfl) ?_))
  intro K hK
  refine ListK.assign (i := 0) (v := .int .i64 0) rfl (by simp [ev_const]) ?_
  refine ListK.done (hK _ _ ?_)
  clear hK K
  refine wpIn_block (wpIn_loop (fun a W' => ∃ (k : Nat) (v : Value), k ≤ l.length ∧ a.tmps.size = 43 ∧ a.defers = [] ∧ a.eval (.tmp 1) = .pointer (some ⟨h, 0, none⟩) ∧ a.eval (.tmp 2) = .pointer (some ⟨h + 1, 0, none⟩) ∧ a.eval (.tmp 3) = .pointer (some ⟨h + 2, 0, none⟩) ∧ a.eval (.tmp 4) = .int .i64 k ∧ BtM W h o t A l.length c v (l.take k) W') (fun a _ => l.length - (intOf (a.eval (.tmp 4))).toNat)
    ⟨0, _, Nat.zero_le _, by simp only [size_put, hz_a2], by simp only [defers_put, hd_a2], (by simp [ev_ne, v1]), (by simp [ev_ne, v2]), (by simp [ev_ne, v3]), (by simp [ev_same, hz_a2]), hm⟩ ?_)
  clear hsz t0 hdf hz_a1 u1 u2 hd_a1 hz_a2 v1 v2 v3 hd_a2 a a1 a2 wb wr hB1 hz1 hm
  rintro a W2 ⟨k, v, hk, hsz, hdf, t1, t2, t3, t4, hm⟩
  have hkb2 := hm.kb.cell 2
  refine wpIn_seq (wpIn_seq (region_l 5 (wideF_plain _) (by kernel_rfl) (by kernel_rfl) ?_))
  intro K hK
  refine ListK.move (i := 0) (v := .int .i64 k) rfl (by simp [t4]) ?_
  refine ListK.field (i := 1) (u := .pointer (some ⟨h, 0, none⟩)) (v := .pointer (some ⟨h, 2, none⟩)) rfl (by simp [ev_ne, t1]) (fa24_2 _) ?_
  refine ListK.load (i := 2) (p := ⟨h, 2, none⟩) (v := .slice A l.length c) rfl (by simp [ev_same, size_put, hsz]) (ld22 (hkb2)) ?_
  refine ListK.len (i := 3) (u := .slice A l.length c) (v := .int .i64 l.length) rfl (by simp [ev_same, size_put, hsz]) (ln22 _ _ _ _ _) rfl ?_
  refine ListK.bin (i := 4) (u := .int .i64 k) (u' := .int .i64 (l.length : Int)) (v := .bool (decide (k < (l.length : Int)))) rfl (by simp [ev_same, ev_ne, hsz]) (by simp [ev_same, size_put, hsz]) (lss3 _) ?_
  refine ListK.done (hK _ _ ?_)
  clear hK K
  have htl : (l.take k).length = k := by rw [List.length_take]; omega
  by_cases hkl : k < l.length
  · refine wpIn_cond (t := true) (by simp [ev_same, size_put, hsz]; omega) (wpIn_skip ?_)
    generalize hA : Act.put _ _ _ = a1
    have hz_a1 : a1.tmps.size = 43 := by rw [← hA]; simp only [size_put, hsz]
    have u1 : a1.eval (.tmp 1) = .pointer (some ⟨h, 0, none⟩) := by rw [← hA]; exact (by simp [ev_ne, t1])
    have u2 : a1.eval (.tmp 2) = .pointer (some ⟨h + 1, 0, none⟩) := by rw [← hA]; exact (by simp [ev_ne, t2])
    have u3 : a1.eval (.tmp 3) = .pointer (some ⟨h + 2, 0, none⟩) := by rw [← hA]; exact (by simp [ev_ne, t3])
    have u4 : a1.eval (.tmp 4) = .int .i64 k := by rw [← hA]; exact (by simp [ev_ne, t4])
    have hd_a1 : a1.defers = [] := by rw [← hA]; simp only [defers_put, hdf]
    clear hA
    have htk := List.take_succ_eq_append_getElem hkl
    obtain ⟨b, off, hA, hbB, s0, s1, s2, s3, s4⟩ := (hs.below hm.low (Nat.le_refl _)) k _ (List.getElem?_eq_getElem hkl)
    subst hA
    generalize l[k] = s at *
    show (Code.seq _ _).wpIn _ _ _ _ _ _
    refine wpIn_seq (wpIn_block (wpIn_seq (region_l 7 (wideF_plain _) (by kernel_rfl) (by kernel_rfl) ?_)))
    intro K5 hK5
    refine ListK.field (i := 0) (u := .pointer (some ⟨h, 0, none⟩)) (v := .pointer (some ⟨h, 2, none⟩)) rfl (by simp [u1]) (fa24_2 _) ?_
    refine ListK.load (i := 1) (p := ⟨h, 2, none⟩) (v := .slice (some ⟨b, off, none⟩) l.length c) rfl (by simp [ev_same, hz_a1]) (ld22 (hkb2)) ?_
    refine ListK.move (i := 2) (v := .int .i64 k) rfl (by simp [ev_ne, u4]) ?_
    refine ListK.index (i := 3) (u := .slice (some ⟨b, off, none⟩) l.length c) (u' := .int .i64 k) (v := .pointer (some ⟨b, off + k * 5, none⟩)) rfl (by simp [ev_same, ev_ne, size_put, hz_a1]) (by simp [ev_same, size_put, hz_a1]) (ix22 hkl _) ?_
    refine ListK.load (i := 4) (p := ⟨b, off + k * 5, none⟩) (v := saleV s) rfl (by simp [ev_same, size_put, hz_a1]) (ld73 s0 s1 s2 s3 s4) ?_
    refine ListK.alloc (i := 5) rfl (al73 W2) ?_
    refine ListK.store (i := 6) (u := .pointer (some ⟨W2.heap.size, 0, none⟩)) (u' := saleV s) rfl (by simp [ev_same, size_put, hz_a1]) (by simp [ev_same, ev_ne, size_put, hz_a1]) (sa73 W2 _) ?_
    refine ListK.done (hK5 _ _ ?_)
    have hwx := Whole.new W2 73 (saleC s)
    have hm1 := hm.below ((Below.refl _ W2).alloc (Nat.le_refl _) (.cells (saleC s) 73))
    generalize hbx : W2.heap.size = bx at *
    generalize W2.alloc (.cells (saleC s) 73) = W3 at *
    clear hm s0 s1 s2 s3 s4 hkb2 hbx W2
    generalize hA : Act.put _ _ _ = a2
    have hz_a2 : a2.tmps.size = 43 := by rw [← hA]; simp only [size_put, hz_a1]
    have x1 : a2.eval (.tmp 1) = .pointer (some ⟨h, 0, none⟩) := by rw [← hA]; exact (by simp [ev_ne, u1])
    have x2 : a2.eval (.tmp 2) = .pointer (some ⟨h + 1, 0, none⟩) := by rw [← hA]; exact (by simp [ev_ne, u2])
    have x3 : a2.eval (.tmp 3) = .pointer (some ⟨h + 2, 0, none⟩) := by rw [← hA]; exact (by simp [ev_ne, u3])
    have x4 : a2.eval (.tmp 4) = .int .i64 k := by rw [← hA]; exact (by simp [ev_ne, u4])
    have x5 : a2.eval (.tmp 5) = .pointer (some ⟨bx, 0, none⟩) := by rw [← hA]; exact (by simp [ev_same, size_put, hz_a1])
    have hd_a2 : a2.defers = [] := by rw [← hA]; simp only [defers_put, hd_a1]
    clear hA
    have c0 : W3.cell? ⟨bx, 0, none⟩ = some (.int .i64 s.src) := hwx.cell 0
    have c1 : W3.cell? ⟨bx, 1, none⟩ = some (.int .i64 s.dst) := hwx.cell 1
    have c2 : W3.cell? ⟨bx, 2, none⟩ = some (.int .i64 s.many) := hwx.cell 2
    have c3 : W3.cell? ⟨bx, 3, none⟩ = some (.int .i64 s.lo) := hwx.cell 3
    have c4 : W3.cell? ⟨bx, 4, none⟩ = some (.int .i64 s.hi) := hwx.cell 4
    have hkx2 := hm1.kx.cell 2
    show (Code.region 6 opsBa6 false).wpIn _ _ _ _ _ _
    refine region_l 20 (wideF_plain _) (by kernel_rfl) (by kernel_rfl) ?_
    intro K6 hK6
    refine ListK.field (i := 0) (u := .pointer (some ⟨h + 2, 0, none⟩)) (v := .pointer (some ⟨h + 2, 2, none⟩)) rfl (by simp [x3]) (fa31_2 _) ?_
    refine ListK.load (i := 1) (p := ⟨h + 2, 2, none⟩) (v := v) rfl (by simp [ev_same, hz_a2]) (ld29 (hkx2)) ?_
    refine ListK.field (i := 2) (u := .pointer (some ⟨bx, 0, none⟩)) (v := .pointer (some ⟨bx, 0, none⟩)) rfl (by simp [ev_ne, x5]) (fa73_0 _) ?_
    refine ListK.load (i := 3) (p := ⟨bx, 0, none⟩) (v := .int .i64 s.src) rfl (by simp [ev_same, size_put, hz_a2]) (ld3 (c0)) ?_
    refine ListK.field (i := 4) (u := .pointer (some ⟨bx, 0, none⟩)) (v := .pointer (some ⟨bx, 1, none⟩)) rfl (by simp [ev_ne, x5]) (fa73_1 _) ?_
    refine ListK.load (i := 5) (p := ⟨bx, 1, none⟩) (v := .int .i64 s.dst) rfl (by simp [ev_same, size_put, hz_a2]) (ld3 (c1)) ?_
    refine ListK.field (i := 6) (u := .pointer (some ⟨bx, 0, none⟩)) (v := .pointer (some ⟨bx, 2, none⟩)) rfl (by simp [ev_ne, x5]) (fa73_2 _) ?_
    refine ListK.load (i := 7) (p := ⟨bx, 2, none⟩) (v := .int .i64 s.many) rfl (by simp [ev_same, size_put, hz_a2]) (ld3 (c2)) ?_
    refine ListK.field (i := 8) (u := .pointer (some ⟨bx, 0, none⟩)) (v := .pointer (some ⟨bx, 3, none⟩)) rfl (by simp [ev_ne, x5]) (fa73_3 _) ?_
    refine ListK.field (i := 9) (u := .pointer (some ⟨bx, 3, none⟩)) (v := .pointer (some ⟨bx, 3, none⟩)) rfl (by simp [ev_same, size_put, hz_a2]) (fa71_0 _) ?_
    refine ListK.load (i := 10) (p := ⟨bx, 3, none⟩) (v := .int .i64 s.lo) rfl (by simp [ev_same, size_put, hz_a2]) (ld3 (c3)) ?_
    refine ListK.field (i := 11) (u := .pointer (some ⟨bx, 0, none⟩)) (v := .pointer (some ⟨bx, 3, none⟩)) rfl (by simp [ev_ne, x5]) (fa73_3 _) ?_
    refine ListK.field (i := 12) (u := .pointer (some ⟨bx, 3, none⟩)) (v := .pointer (some ⟨bx, 4, none⟩)) rfl (by simp [ev_same, size_put, hz_a2]) (fa71_1 _) ?_
    refine ListK.load (i := 13) (p := ⟨bx, 4, none⟩) (v := .int .i64 s.hi) rfl (by simp [ev_same, size_put, hz_a2]) (ld3 (c4)) ?_
    refine ListK.bld (i := 14) (ps := #[(0, .int .i64 s.lo), (1, .int .i64 s.hi)]) (v := .agg #[.int .i64 s.lo, .int .i64 s.hi]) rfl (by simp [ev_same, ev_ne, size_put, hz_a2]) (bd46r _ _ _) ?_
    refine ListK.bld (i := 15) (ps := #[(0, .int .i64 s.src), (1, .int .i64 s.dst), (2, .int .i64 s.many), (3, .agg #[.int .i64 s.lo, .int .i64 s.hi])]) (v := saleV s) rfl (by simp [ev_same, ev_ne, size_put, hz_a2]) (bd61r _ _) ?_
    refine ListK.bsl (i := 16) (ps := #[(0, saleV s)]) (v := .slice (some ⟨W3.heap.size, 0, none⟩) 1 1) rfl (by simp [ev_same, size_put, hz_a2]) (bs29_1 _ _) ?_
    have hm2 := hm1.below ((Below.refl _ W3).alloc (Nat.le_refl _) (.cells (saleC s) 61))
    have hnw := news5 (W := W3) s 61
    generalize W3.alloc (.cells (saleC s) 61) = W4 at *
    refine ListK.append61 (i := 17) rfl hm2.own (by simp [ev_same, ev_ne, size_put, hz_a2]) ⟨W3.heap.size, 0, none⟩ 1 (saleL s) (by simp [ev_same, size_put, hz_a2]) rfl hnw (by simp [saleL, Value.oneCell']) (by unfold maxLen; omega) (by omega) hm2.base ?_
    intro g cap W5 hown hgr hat
    have hm3 := hm2.put hown hgr
    have hc2 : W5.cell? ⟨h + 2, 2, none⟩ = some v := (hgr.cell (hm2.kx.cell 2) (hm2.far (by simp)))
    have hf2 : W5.frozen? ⟨h + 2, 2, none⟩ = false := (hgr.frozen_far ⟨h + 2, 2, none⟩ hm2.kx.lt (hm2.far (by simp))).trans (hm2.kx.frozen 2)
    refine ListK.field (i := 18) (u := .pointer (some ⟨h + 2, 0, none⟩)) (v := .pointer (some ⟨h + 2, 2, none⟩)) rfl (by simp [ev_ne, x3]) (fa31_2 _) ?_
    refine ListK.store (i := 19) (u := .pointer (some ⟨h + 2, 2, none⟩)) (u' := .slice (some ⟨g, 0, none⟩) ((l.take k).length + 1) cap) rfl (by simp [ev_same, size_put, hz_a2]) (by simp [ev_same, ev_ne, size_put, hz_a2]) (st29 hc2 hf2) ?_
    refine ListK.done (hK6 _ _ ?_)
    generalize hA : Act.put _ _ _ = a3
    have hz_a3 : a3.tmps.size = 43 := by rw [← hA]; simp only [size_put, hz_a2]
    have y1 : a3.eval (.tmp 1) = .pointer (some ⟨h, 0, none⟩) := by rw [← hA]; exact (by simp [ev_ne, x1])
    have y2 : a3.eval (.tmp 2) = .pointer (some ⟨h + 1, 0, none⟩) := by rw [← hA]; exact (by simp [ev_ne, x2])
    have y3 : a3.eval (.tmp 3) = .pointer (some ⟨h + 2, 0, none⟩) := by rw [← hA]; exact (by simp [ev_ne, x3])
    have y4 : a3.eval (.tmp 4) = .int .i64 k := by rw [← hA]; exact (by simp [ev_ne, x4])
    have hd_a3 : a3.defers = [] := by rw [← hA]; simp only [defers_put, hd_a2]
    clear hA
    show (Code.region 4 opsBa4 false).wpIn _ _ _ _ _ _
    refine region_l 3 (wideF_plain _) (by kernel_rfl) (by kernel_rfl) ?_
    intro K4 hK4
    refine ListK.move (i := 0) (v := .int .i64 k) rfl (by simp [y4]) ?_
    refine ListK.bin (i := 1) (u := .int .i64 k) (u' := .int .i64 1) (v := .int .i64 (k + 1)) rfl (by simp [ev_same, hz_a3]) (by simp [ev_const]) (add3 (by omega) (by omega) _) ?_
    refine ListK.assign (i := 2) (v := .int .i64 ((k + 1 : Nat) : Int)) rfl (by simp [ev_same, size_put, hz_a3]) ?_
    skip
    have hmu : ∀ b : Act, b.eval (.tmp 4) = .int .i64 ((k + 1 : Nat) : Int) → l.length - (intOf (b.eval (.tmp 4))).toNat < l.length - (intOf (a.eval (.tmp 4))).toNat := by
      intro b e
      rw [e, t4]
      simp only [intOf]
      omega
    refine ListK.done (hK4 _ _ ⟨⟨k + 1, _, by omega, by simp only [size_put, hz_a3], by simp only [defers_put, hd_a3], (by simp [ev_ne, y1]), (by simp [ev_ne, y2]), (by simp [ev_ne, y3]), (by simp [ev_same, size_put, hz_a3]), by rw [htk]; exact hm3⟩, hmu _ (by simp [ev_same, size_put, hz_a3])⟩)
  · obtain rfl : k = l.length := by omega
    refine wpIn_cond (t := false) (by simp [ev_same, size_put, hsz]) (wpIn_exit ?_)
    generalize hA : Act.put _ _ _ = a1
    have hz_a1 : a1.tmps.size = 43 := by rw [← hA]; simp only [size_put, hsz]
    have u1 : a1.eval (.tmp 1) = .pointer (some ⟨h, 0, none⟩) := by rw [← hA]; exact (by simp [ev_ne, t1])
    have u2 : a1.eval (.tmp 2) = .pointer (some ⟨h + 1, 0, none⟩) := by rw [← hA]; exact (by simp [ev_ne, t2])
    have u3 : a1.eval (.tmp 3) = .pointer (some ⟨h + 2, 0, none⟩) := by rw [← hA]; exact (by simp [ev_ne, t3])
    have hd_a1 : a1.defers = [] := by rw [← hA]; simp only [defers_put, hdf]
    clear hA
    rw [List.take_length] at hm
    obtain ⟨A', c', rfl, hsa⟩ := sales_of_owns hm.own
    have ht2 := hm.kx
    have x0 := ht2.cell 0
    have x1 := ht2.cell 1
    have x2 := ht2.cell 2
    have r := hm.kr
    show (Code.seq _ _).wpIn _ _ _ _ _ _
    refine wpIn_seq (region_l 2 (wideF_plain _) (by kernel_rfl) (by kernel_rfl) ?_)
    intro K hK
    refine ListK.load (i := 0) (p := ⟨h + 2, 0, none⟩) (v := .agg #[.int .i64 o, .int .i64 t, .slice A' l.length c']) rfl (by simp [u3]) (ld31' ⟨x0, x1, x2⟩) ?_
    refine ListK.store (i := 1) (u := .pointer (some ⟨h + 1, 0, none⟩)) (u' := .agg #[.int .i64 o, .int .i64 t, .slice A' l.length c']) rfl (by simp [ev_ne, u2]) (by simp [ev_same, hz_a1]) (st31 (r.cell 0) (r.cell 1) (r.cell 2) (r.frozen 0) (r.frozen 1) (r.frozen 2)) ?_
    refine ListK.done (hK _ _ (wpIn_ret ?_))
    have k3 := ((r.set 0 (.int .i64 o)).set 1 (.int .i64 t)).set 2 (.slice A' l.length c')
    refine bodyPost_ret (res31 (b := h + 1) Try.results18 (by simp [ev_ne, u2]) (k3.cell 0) (k3.cell 1) (k3.cell 2)) (by simp only [defers_put, hd_a1]) ⟨A', c', rfl, ?_, ?_⟩
    · have hne : ∀ k s, l[k]? = some s → ∃ b off, A' = some ⟨b, off, none⟩ ∧ b < W2.heap.size ∧ b ≠ h + 1 ∧ SaleAt W2 b off k s := by
        intro k s hks
        obtain ⟨b, off, e1, e2, e3⟩ := hsa k s hks
        refine ⟨b, off, e1, e2, ?_, e3⟩
        rcases hm.own.2 with ⟨e4, _⟩ | ⟨g, cap, cur, e4, e5, _⟩
        · rw [e1] at e4; cases e4
        · rw [e1] at e4; cases e4; omega
      intro k s hks
      obtain ⟨b, off, e1, e2, e3, e4⟩ := hne k s hks
      refine ⟨b, off, e1, by simpa [World.setCell] using e2, e4.keep fun i => ?_⟩
      rw [cell_set_far (by simpa using e3), cell_set_far (by simpa using e3), cell_set_far (by simpa using e3)]
    · have hlow := hm.low
      exact ((hlow.setCell (p := ⟨h + 1, 0, none⟩) (by simp) _).setCell (p := ⟨h + 1, 1, none⟩) (by simp) _).setCell (p := ⟨h + 1, 2, none⟩) (by simp) _
end Go.Proofs.Ytfcnombmphophaa

/-! Qn: list: a copy of a list of numbers. -/
namespace Go.Proofs.Ytfcnombmphophaa
open Go.RowKit Go.Shelf
theorem bs25_z (w : World) : (Instr.buildSlice 25 0 #[]).run Try.prog w = .ok (.slice (some ⟨w.heap.size, 0, none⟩) 0 0) (w.alloc (.cells #[] 3)) := by
  kernel_rfl
section
variable {ops : Array Oper} {K : Act → World → Prop} {k i d : Nat} {a : Act} {w : World} {ty : TypeId} {pos : String} {aft : Array Edge}
theorem ListK.app25 {s x : Operand} (hi : ops[i]? = some ⟨some d, .call { callee := .builtin .append, args := #[s, x], argTypes := #[25, 25] }, ty, pos, aft, none⟩)
    {base n : Nat} {v : Value} {xs : List Value} (hown : w.ownsRow base 3 1 v n xs) (hs : a.eval s = v) (ad : Addr) (m c : Nat) (news : List Value) (hx : a.eval x = .slice (some ad) m c) (hl : news.length = m) (hm : 0 < m)
    (hnews : ∀ j u, news[j]? = some u → w.cell? (ad.add j) = some u) (h1 : ∀ u ∈ news, u.oneCell' = true) (h63 : n + m ≤ maxLen) (hbytes : (n + m) * 8 ≤ 140737488355328) (hbase : base ≤ w.heap.size)
    (h : ∀ g cap w', w'.ownsRow base 3 1 (.slice (some ⟨g, 0, none⟩) (n + m) cap) (n + m) (xs ++ news) → w.grownBy w' v.ownBlock → (v.ownBlock = some g ∨ g = w.heap.size) → ListK Try.prog ops K k (i + 1) (a.put (some d) (.slice (some ⟨g, 0, none⟩) (n + m) cap)) w') :
    ListK Try.prog ops K (k + 1) i a w := by
  obtain ⟨i0, hi0, hi1, hi2, hi3⟩ := info_parts Try.info3
  obtain ⟨g, cap, w', hr, h2, h3, h4, h5⟩ := run_append_lies (P := Try.prog) w 25 ty base 3 i0 (.int .i64 0) 1 8 Try.underlying25 hi0 hi1 hi2 hi3 rfl (by omega) v n xs hown ad m c news (by simpa using hl) hnews h1 hm h63 hbytes hbase w.heap.size rfl
  refine ListK.val hi rfl ?_ (h g cap w' h2 h3 h4)
  simp [execOp, resolve, invoke, builtin, hs, hx, hr]
theorem ListK.app25z {s x : Operand} (hi : ops[i]? = some ⟨some d, .call { callee := .builtin .append, args := #[s, x], argTypes := #[25, 25] }, ty, pos, aft, none⟩)
    {g n c c' : Nat} {A : Option Addr} (hs : a.eval s = .slice (some ⟨g, 0, none⟩) n c) (hx : a.eval x = .slice A 0 c') (hnc : n ≤ c)
    (h : ListK Try.prog ops K k (i + 1) (a.put (some d) (.slice (some ⟨g, 0, none⟩) n c)) w) : ListK Try.prog ops K (k + 1) i a w := by
  obtain ⟨i0, hi0, hi1, hi2, hi3⟩ := info_parts Try.info3
  refine ListK.val hi rfl ?_ h
  have : (Builtin.append_ #[25, 25] ty #[.slice (some ⟨g, 0, none⟩) n c, .slice A 0 c']).run Try.prog w = .ok (.slice (some ⟨g, 0, none⟩) n c) w := by
    cases A <;> simp [Builtin.append_, run_underlying Try.underlying25, sizeOf, typeInfo, hi0, Builtin.lenOf, Builtin.firstCells, hnc, storeCells, loadCells, loadCellsFrom]
  simp [execOp, resolve, invoke, builtin, hs, hx, this]
end
noncomputable def opsLi0 : Array Oper := (Try.f20.body.bind (regionOf 0)).getD #[]
noncomputable def opsLi1 : Array Oper := (Try.f20.body.bind (regionOf 1)).getD #[]
noncomputable def code20 : Code := .seq (.region 0 opsLi0 false) (.seq (.region 1 opsLi1 false) .ret)
theorem body20 : Try.f20.body = some code20 := by kernel_rfl
set_option maxRecDepth 10000 in
set_option maxHeartbeats 1000000 in
theorem copy_any (A : Option Addr) (l : List Int) (c : Nat) (W : World) (hl : l.length ≤ 1000) (hs : IntsAt W W.heap.size A l) :
    Calls Try.prog 20 #[.slice A l.length c] W fun e w' => ∃ v, e = .returned v ∧ RI w' v l ∧ Below W.heap.size W w' := by
  refine (callsIn_wide (n := 5)).1 (callsIn_of_wp Try.func20 body20 trivial ?_ rfl)
  obtain ⟨a, ha⟩ : ∃ a : Act, a = { tmps := #[.slice A l.length c] ++ Array.replicate (Try.f20.ntmps - (#[.slice A l.length c] : Array Value).size) undef, defers := [] } := ⟨_, rfl⟩
  have hsz : a.tmps.size = 6 := by rw [ha]; simp [Try.ntmps20]
  have t0 : a.eval (.tmp 0) = .slice A l.length c := by rw [ha]; simp [Act.eval]
  have hdf : a.defers = [] := by rw [ha]
  rw [← ha]
  clear ha
  have hret : ∀ (a' : Act) (W' : World) (v : Value), a'.defers = [] → a'.eval (.tmp 2) = v → OL W v l W' → bodyPost Try.prog Try.f20 (fun e w' => ∃ v, e = .returned v ∧ RI w' v l ∧ Below W.heap.size W w') .ret a' W' := fun a' W' v hd h4 ho =>
    bodyPost_ret (v := v) (res1 Try.results20 h4) hd ⟨v, rfl, ho.ints, ho.low⟩
  unfold code20
  refine wpIn_seq (region_l 1 (wideF_plain _) (by kernel_rfl) (by kernel_rfl) ?_)
  intro K hK
  refine ListK.assign (i := 0) (v := .slice none 0 0) rfl (by simp [ev_const]) ?_
  refine ListK.done (hK _ _ ?_)
  clear hK K
  refine wpIn_seq (region_l 4 (wideF_plain _) (by kernel_rfl) (by kernel_rfl) ?_)
  intro K hK
  have hB1 : Below W.heap.size W (W.alloc (.cells #[] 3)) := (Below.refl _ W).alloc (Nat.le_refl _) _
  have hown : (W.alloc (.cells #[] 3)).ownsRow W.heap.size 3 1 (.slice (some ⟨W.heap.size, 0, none⟩) 0 0) 0 [] := by
    have := World.ownsRow_lit (base := W.heap.size) (e := 3) (size := 1) W (#[] : Array Value) 0 (Nat.le_refl _) (by unfold maxLen; omega) (by simp)
    simpa using this
  refine ListK.bsl (i := 0) (ps := #[]) (v := .slice (some ⟨W.heap.size, 0, none⟩) 0 0) rfl (by simp) (bs25_z _) ?_
  refine ListK.move (i := 1) (v := .slice A l.length c) rfl (by simp [ev_ne, t0]) ?_
  have hs1 := hs.below hB1 (Nat.le_refl _)
  have hS1 : W.heap.size ≤ (W.alloc (.cells #[] 3)).heap.size := hB1.size
  generalize W.alloc (.cells #[] 3) = W1 at *
  by_cases h0 : l.length = 0
  · obtain rfl : l = [] := List.eq_nil_of_length_eq_zero h0
    refine ListK.app25z (i := 2) (g := W.heap.size) (n := 0) (c := 0) (A := A) (c' := c) rfl (by simp [ev_same, ev_ne, size_put, hsz]) (by simp [ev_same, size_put, hsz]) (Nat.le_refl _) ?_
    refine ListK.assign (i := 3) (v := .slice (some ⟨W.heap.size, 0, none⟩) 0 0) rfl (by simp [ev_same, size_put, hsz]) ?_
    refine ListK.done (hK _ _ (wpIn_ret ?_))
    exact hret _ _ _ (by simp only [defers_put, hdf]) (by simp [ev_same, size_put, hsz]) ⟨hB1, hown⟩
  · obtain ⟨b, off, hA, hb, _⟩ := hs1 0 l[0] (List.getElem?_eq_getElem (by omega))
    subst hA
    refine ListK.app25 (i := 2) rfl hown (by simp [ev_same, ev_ne, size_put, hsz]) ⟨b, off, none⟩ l.length c (l.map (Value.int .i64)) (by simp [ev_same, size_put, hsz]) (by simp) (by omega) ?_ ?_ (by unfold maxLen; omega) (by omega) hS1 ?_
    · intro j u hu
      rw [List.getElem?_map, Option.map_eq_some_iff] at hu
      obtain ⟨x, hx, rfl⟩ := hu
      obtain ⟨b', off', e, _, hc⟩ := hs1 j x hx
      cases e
      simp only [Addr.add]
      split
      · rename_i h0
        subst h0
        exact hc
      · exact hc
    · intro u hu
      obtain ⟨x, _, rfl⟩ := List.mem_map.1 hu
      rfl
    · intro g cap W2 ho hgr _
      refine ListK.assign (i := 3) (v := .slice (some ⟨g, 0, none⟩) (0 + l.length) cap) rfl (by simp [ev_same, size_put, hsz]) ?_
      refine ListK.done (hK _ _ (wpIn_ret ?_))
      rw [Nat.zero_add, List.nil_append] at ho
      refine hret _ _ (.slice (some ⟨g, 0, none⟩) l.length cap) (by simp only [defers_put, hdf]) (by rw [Nat.zero_add]; exact (by simp [ev_same, size_put, hsz])) ⟨?_, ho⟩
      exact hB1.grown hgr hS1 (fun k e => by have := (hown.lt k e).1; omega)
end Go.Proofs.Ytfcnombmphophaa

/-! Pc: The reference's truth of a batch is the program's. Plain. -/
namespace Go.Proofs.Ytfcnombmphophaa
open Go.RowKit Go.Shelf
theorem hasI_app (l : List Int) (x n : Int) : hasI (l ++ [x]) n = (hasI l n || x == n) := by
  simp [hasI]
theorem stockR_app (t : Int) (l : List Sale) (pre : List Int) (n ow : Int) : stockR t l (pre ++ [n]) ow = stepR l ow (stockR t l pre ow) n := by
  simp [stockR]
theorem sold_step {l : List Sale} {st : Nat → Int} {n : Nat} {x : Int} {i : Nat} (hn : n < l.length) (h0 : 0 ≤ (saleOf l n).src) (h1 : 0 ≤ (saleOf l n).dst) (hne : (saleOf l n).src ≠ (saleOf l n).dst) (hx : st i = x) : sold st (saleOf l n) i = stepR l i x n := by
  rw [sold_delta, hx]
  unfold stepR delta
  rw [Int.toNat_natCast]
  generalize saleOf l n = s at *
  obtain ⟨a, b, m, lo, hi⟩ := s
  simp only [] at *
  have e1 : (i = b.toNat) = (b = (i : Int)) := propext ⟨fun h => by omega, fun h => by omega⟩
  have e2 : (i = a.toNat) = (a = (i : Int)) := propext ⟨fun h => by omega, fun h => by omega⟩
  simp only [e1, e2]
  split <;> split <;> omega
theorem isGo_prove {o t : Int} {l : List Sale} (hv : Valid o t l) (dys : List Int) : ∀ (ns pre : List Int) (sn : Nat → Bool) (st : Nat → Int) (la : Int), (∀ m : Nat, sn m = hasI pre m) → (∀ i : Nat, st i = stockR t l pre i) → isGo t l dys pre ns la = proveGo l dys ns sn st la
  | [], _, _, _, _, _, _ => rfl
  | n :: ns, pre, sn, st, la, h1, h2 => by
    unfold isGo proveGo
    cases hI : inR n 0 ((l.length : Int) - 1) with
    | false => simp
    | true =>
      have hin := inR_iff.1 hI
      obtain ⟨m, rfl⟩ : ∃ m : Nat, n = m := ⟨n.toNat, by omega⟩
      have hm : m < l.length := by omega
      have hs : l[m]? = some l[m] := List.getElem?_eq_getElem hm
      have hf := hv.at_ hs
      have hso := saleOf_eq hs
      rw [Int.toNat_natCast]
      simp only [Bool.true_and, Bool.true_eq_false, if_false]
      unfold mayR
      rw [Int.toNat_natCast, h1 m]
      cases hasI pre m with
      | true => simp
      | false =>
        simp only [Bool.not_false, Bool.true_and, Bool.false_eq_true, if_false]
        generalize (dys[m]?).getD 0 = dy
        cases inR dy (saleOf l m).lo (saleOf l m).hi with
        | false => simp
        | true =>
          simp only [Bool.true_and, Bool.true_eq_false, if_false]
          by_cases h3 : dy < la
          · rw [if_pos h3]
            have : ¬ la ≤ dy := by omega
            simp [this]
          · rw [if_neg h3]
            have h3' : la ≤ dy := by omega
            have hst : st (saleOf l m).src.toNat = stockR t l pre (saleOf l m).src := by
              rw [h2, Int.toNat_of_nonneg (by rw [hso]; exact hf.1)]
            rw [hst]
            by_cases h4 : stockR t l pre (saleOf l m).src < (saleOf l m).many
            · rw [if_pos h4]
              have : ¬ (saleOf l m).many ≤ stockR t l pre (saleOf l m).src := by omega
              simp [this]
            · rw [if_neg h4]
              have h4' : (saleOf l m).many ≤ stockR t l pre (saleOf l m).src := by omega
              simp only [h3', h4', decide_true, Bool.true_and]
              refine isGo_prove hv dys ns _ _ _ _ ?_ ?_
              · intro j
                rw [hasI_app]
                unfold updB
                by_cases e : j = m
                · simp [e]
                · rw [if_neg e, h1 j]
                  have : ¬ m = j := fun h => e h.symm
                  simp
                  intro h
                  exact absurd h (by omega)
              · intro i
                rw [stockR_app]
                exact sold_step hm (by rw [hso]; exact hf.1) (by rw [hso]; exact hf.2.2.1) (by rw [hso]; exact hf.2.2.2.2.1) (h2 i)
theorem truth_prove {o t : Int} {l : List Sale} (h0 : fault o t l = 0) (ord dys : List Int) : proveB o t l ord dys = truthB t l ord dys := by
  unfold proveB truthB
  rw [h0]
  rw [isGo_prove (valid_of_fault h0) dys ord [] (fun _ => false) (upd (fun _ => 0) 0 t) 0 (fun m => rfl) (fun i => ?_)]
  · simp
  · unfold stockR upd
    simp
theorem proves_law (o t : Int) (l : List Sale) (ord dys : List Int) : proveB o t l ord dys = (decide (fault o t l = 0) && truthB t l ord dys) := by
  by_cases h0 : fault o t l = 0
  · rw [truth_prove h0]
    simp [h0]
  · unfold proveB
    simp [h0]
end Go.Proofs.Ytfcnombmphophaa

/-! Qo: RecallProves: its walk. -/
namespace Go.Proofs.Ytfcnombmphophaa
open Go.RowKit Go.Shelf
theorem gtrT {x y : Operand} {m n : Int} (h : n < m) (w : World) : (do eqGuard .gtr 3 x y (.int .i64 m) (.int .i64 n); binOp .gtr 3 (.int .i64 m) (.int .i64 n) : Sem Value).run Try.prog w = .ok (.bool true) w := by
  go_simp
theorem gtrF {x y : Operand} {m n : Int} (h : ¬ n < m) (w : World) : (do eqGuard .gtr 3 x y (.int .i64 m) (.int .i64 n); binOp .gtr 3 (.int .i64 m) (.int .i64 n) : Sem Value).run Try.prog w = .ok (.bool false) w := by
  go_simp
theorem eql27F {x y : Operand} {m n : Int} (h : m ≠ n) (w : World) : (do eqGuard .eql 27 x y (.int .i64 m) (.int .i64 n); binOp .eql 27 (.int .i64 m) (.int .i64 n) : Sem Value).run Try.prog w = .ok (.bool false) w := by
  go_simp
theorem eql4T {x y : Operand} {m n : Bool} (h : m = n) (w : World) : (do eqGuard .eql 4 x y (.bool m) (.bool n); binOp .eql 4 (.bool m) (.bool n) : Sem Value).run Try.prog w = .ok (.bool true) w := by
  subst h
  cases m <;> go_simp
theorem ListK.pickW {P : Program} {ops : Array Oper} {K : Act → World → Prop} {k i d : Nat} {a : Act} {w : World} {ty : TypeId} {pos : String} {aft : Array Edge} {gd : Option (Nat × Bool)} {c x y : Operand} {b : Bool} {v : Value} (hi : ops[i]? = some ⟨some d, .pick c x y, ty, pos, aft, gd⟩) (hc : a.eval c = .bool b) (hx : (if b then a.eval x else a.eval y) = v)
    (h : ListK P ops K k (i + 1) (a.put (some d) v) w) (hw : Region.wanted ⟨some d, .pick c x y, ty, pos, aft, gd⟩ (yielded ops a.tmps) = true := by rfl) : ListK P ops K (k + 1) i a w :=
  ListK.valW hi hw (by simp [execOp, hc, asBool]; cases b <;> simpa using hx) h
noncomputable def opsPv0 : Array Oper := (Try.f3.body.bind (regionOf 0)).getD #[]
noncomputable def opsPv1 : Array Oper := (Try.f3.body.bind (regionOf 1)).getD #[]
noncomputable def opsPv2 : Array Oper := (Try.f3.body.bind (regionOf 2)).getD #[]
noncomputable def opsPv3 : Array Oper := (Try.f3.body.bind (regionOf 3)).getD #[]
noncomputable def opsPv4 : Array Oper := (Try.f3.body.bind (regionOf 4)).getD #[]
noncomputable def opsPv5 : Array Oper := (Try.f3.body.bind (regionOf 5)).getD #[]
noncomputable def code3p : Code := .seq (.region 0 opsPv0 false) (.seq (.seq (.region 1 opsPv1 false) (.cond (.tmp 22) (.seq (.region 2 opsPv2 false) .ret) .skip)) (.seq (.region 3 opsPv3 false) (.seq (.region 4 opsPv4 false) (.seq (.region 5 opsPv5 false) .ret))))
theorem body3p : Try.f3.body = some code3p := by kernel_rfl
set_option maxRecDepth 10000 in
set_option maxHeartbeats 4000000 in
theorem proves_any (o t : Int) (A A1 A2 : Option Addr) (l : List Sale) (ord dys : List Int) (c c1 c2 : Nat) (W : World) (hc1 : ord.length ≤ c1) (hs : SalesAt W W.heap.size A l) (h1 : IntsAt W W.heap.size A1 ord) (h2 : IntsAt W W.heap.size A2 dys) :
    Calls Try.prog 3 #[.agg #[.int .i64 o, .int .i64 t, .slice A l.length c], .slice A1 ord.length c1, .slice A2 dys.length c2] W (TP W true) := by
  refine (callsIn_wide (n := 5)).1 (callsIn_of_wp Try.func3 body3p trivial ?_ rfl)
  obtain ⟨a, ha⟩ : ∃ a : Act, a = { tmps := #[.agg #[.int .i64 o, .int .i64 t, .slice A l.length c], .slice A1 ord.length c1, .slice A2 dys.length c2] ++ Array.replicate (Try.f3.ntmps - (#[.agg #[.int .i64 o, .int .i64 t, .slice A l.length c], .slice A1 ord.length c1, .slice A2 dys.length c2] : Array Value).size) undef, defers := [] } := ⟨_, rfl⟩
  have hsz : a.tmps.size = 53 := by rw [ha]; simp [Try.ntmps3]
  have t0 : a.eval (.tmp 0) = .agg #[.int .i64 o, .int .i64 t, .slice A l.length c] := by rw [ha]; simp [Act.eval]
  have t1 : a.eval (.tmp 1) = .slice A1 ord.length c1 := by rw [ha]; simp [Act.eval]
  have t2 : a.eval (.tmp 2) = .slice A2 dys.length c2 := by rw [ha]; simp [Act.eval]
  have hdf : a.defers = [] := by rw [ha]
  rw [← ha]
  clear ha
  have hret : ∀ (a' : Act) (W' : World), a'.defers = [] → a'.eval (.tmp 6) = .bool true → Below W.heap.size W W' → bodyPost Try.prog Try.f3 (TP W true) .ret a' W' := fun a' W' hd h4 hb =>
    bodyPost_ret (v := .bool true) (res1 Try.results3 h4) hd ⟨rfl, hb⟩
  unfold code3p
  refine wpIn_seq (region_l 2 (wideF_plain _) (by kernel_rfl) (by kernel_rfl) ?_)
  intro K hK
  refine ListK.box (i := 0) (u := .agg #[.int .i64 o, .int .i64 t, .slice A l.length c]) rfl (by simp [t0]) (bx24 W _ _ _ _ _) ?_
  refine ListK.assign (i := 1) (v := .bool false) rfl (by simp [ev_const]) ?_
  refine ListK.done (hK _ _ ?_)
  clear hK K
  have wb := Whole.new W 24 #[.int .i64 o, .int .i64 t, .slice A l.length c]
  have hB1 : Below W.heap.size W (W.alloc (.cells #[.int .i64 o, .int .i64 t, .slice A l.length c] 24)) := (Below.refl _ W).alloc (Nat.le_refl _) _
  have hS1 := hB1.size
  have hlt : W.heap.size < (W.alloc (.cells #[.int .i64 o, .int .i64 t, .slice A l.length c] 24)).heap.size := by simp
  generalize hb3 : W.heap.size = b3 at *
  generalize W.alloc (.cells #[.int .i64 o, .int .i64 t, .slice A l.length c] 24) = W1 at *
  replace hs : SalesAt W1 W1.heap.size A l := (hs.below hB1 (Nat.le_refl _)).more hS1
  replace h1 : IntsAt W1 W1.heap.size A1 ord := (h1.below hB1 (Nat.le_refl _)).more hS1
  replace h2 : IntsAt W1 W1.heap.size A2 dys := (h2.below hB1 (Nat.le_refl _)).more hS1
  have q2' := wb.cell 2
  generalize hA : Act.put _ _ _ = a1
  have hz_a1 : a1.tmps.size = 53 := by rw [← hA]; simp only [size_put, hsz]
  have u1 : a1.eval (.tmp 1) = .slice A1 ord.length c1 := by rw [← hA]; exact (by simp [ev_ne, t1])
  have u2 : a1.eval (.tmp 2) = .slice A2 dys.length c2 := by rw [← hA]; exact (by simp [ev_ne, t2])
  have u3 : a1.eval (.tmp 3) = .pointer (some ⟨b3, 0, none⟩) := by rw [← hA]; exact (by simp [ev_same, ev_ne, hsz])
  have hd_a1 : a1.defers = [] := by rw [← hA]; simp only [defers_put, hdf]
  clear hA
  have hwk : ∀ (Q : Exit → Act → World → Prop), (∀ (a' : Act) (W' : World), a'.defers = [] → a'.eval (.tmp 6) = .bool true → Below b3 W W' → Q .ret a' W') → ∀ a : Act, a.tmps.size = 53 → a.defers = [] → (Code.seq (.region 2 opsPv2 false) .ret).wpIn Fence.wide 5 Try.prog Q a W1 := by
    intro Q hQ a hz hd
    refine wpIn_seq (region_l 2 (wideF_plain _) (by kernel_rfl) (by kernel_rfl) ?_)
    intro K hK
    refine ListK.call (i := 0) (vs := #[]) rfl (enters_of Try.func16 (by kernel_rfl) rfl) (by simp) (((wakes_any W1)).mono ?_)
    rintro _ W2 ⟨rfl, hb2⟩
    refine ⟨_, rfl, ?_⟩
    refine ListK.assign (i := 1) (v := .bool true) rfl (by simp [ev_same, hz]) ?_
    refine ListK.done (hK _ _ (wpIn_ret ?_))
    exact hQ _ _ (by simp only [defers_put, hd]) (by simp [ev_same, size_put, hz]) (hB1.trans (hb2.mono (by omega)))
  by_cases g0 : 12 < l.length
  · skip
    refine wpIn_seq (wpIn_seq (region_l 14 (wideF_plain _) (by kernel_rfl) (by kernel_rfl) ?_))
    intro K hK
    refine ListK.field (i := 0) (u := .pointer (some ⟨b3, 0, none⟩)) (v := .pointer (some ⟨b3, 2, none⟩)) rfl (by simp [u3]) (fa24_2 _) ?_
    refine ListK.load (i := 1) (p := ⟨b3, 2, none⟩) (v := .slice A l.length c) rfl (by simp [ev_same, hz_a1]) (ld22 (q2')) ?_
    refine ListK.len (i := 2) (u := .slice A l.length c) (v := .int .i64 l.length) rfl (by simp [ev_same, size_put, hz_a1]) (ln22 _ _ _ _ _) rfl ?_
    refine ListK.bin (i := 3) (u := .int .i64 l.length) (u' := .int .i64 12) (v := .bool true) rfl (by simp [ev_same, size_put, hz_a1]) (by simp [ev_const]) (gtrT (by omega) _) ?_
    refine ListK.move (i := 4) (v := .bool true) rfl (by simp [ev_same, size_put, hz_a1]) ?_
    refine ListK.passG (i := 5) (e := 13) (b' := true) rfl rfl (by simp [ev_same, size_put, hz_a1]) rfl ?_
    refine ListK.passG (i := 6) (e := 13) (b' := true) rfl rfl (by simp [ev_same, ev_ne, size_put, hz_a1]) rfl ?_
    refine ListK.passG (i := 7) (e := 13) (b' := true) rfl rfl (by simp [ev_same, ev_ne, size_put, hz_a1]) rfl ?_
    refine ListK.pick (i := 8) (b := true) (v := .bool true) rfl (by simp [ev_same, ev_ne, size_put, hz_a1]) (by simp [ev_const]) ?_
    refine ListK.move (i := 9) (v := .bool true) rfl (by simp [ev_same, size_put, hz_a1]) ?_
    refine ListK.passG (i := 10) (e := 18) (b' := true) rfl rfl (by simp [ev_same, size_put, hz_a1]) rfl ?_
    refine ListK.passG (i := 11) (e := 18) (b' := true) rfl rfl (by simp [ev_same, ev_ne, size_put, hz_a1]) rfl ?_
    refine ListK.passG (i := 12) (e := 18) (b' := true) rfl rfl (by simp [ev_same, ev_ne, size_put, hz_a1]) rfl ?_
    refine ListK.pick (i := 13) (b := true) (v := .bool true) rfl (by simp [ev_same, ev_ne, size_put, hz_a1]) (by simp [ev_const]) ?_
    refine ListK.done (hK _ _ ?_)
    clear hK K
    refine wpIn_cond (t := true) (by simp [ev_same, size_put, hz_a1]) ?_
    refine hwk _ ?_ _ (by simp only [size_put, hz_a1]) (by simp only [defers_put, hd_a1])
    intro a' W' e1 e2 e3
    exact hret a' W' e1 e2 e3
  · by_cases g1 : 12 < ord.length
    · skip
      refine wpIn_seq (wpIn_seq (region_l 14 (wideF_plain _) (by kernel_rfl) (by kernel_rfl) ?_))
      intro K hK
      refine ListK.field (i := 0) (u := .pointer (some ⟨b3, 0, none⟩)) (v := .pointer (some ⟨b3, 2, none⟩)) rfl (by simp [u3]) (fa24_2 _) ?_
      refine ListK.load (i := 1) (p := ⟨b3, 2, none⟩) (v := .slice A l.length c) rfl (by simp [ev_same, hz_a1]) (ld22 (q2')) ?_
      refine ListK.len (i := 2) (u := .slice A l.length c) (v := .int .i64 l.length) rfl (by simp [ev_same, size_put, hz_a1]) (ln22 _ _ _ _ _) rfl ?_
      refine ListK.bin (i := 3) (u := .int .i64 l.length) (u' := .int .i64 12) (v := .bool false) rfl (by simp [ev_same, size_put, hz_a1]) (by simp [ev_const]) (gtrF (by omega) _) ?_
      refine ListK.move (i := 4) (v := .bool false) rfl (by simp [ev_same, size_put, hz_a1]) ?_
      refine ListK.move (i := 5) (v := .slice A1 ord.length c1) rfl (by simp [ev_ne, u1]) ?_ (hw := wanted_g (e := 13) (b' := false) rfl (by simp [ev_same, size_put, hz_a1]) rfl)
      refine ListK.lenW (i := 6) (u := .slice A1 ord.length c1) (v := .int .i64 ord.length) rfl (by simp [ev_same, size_put, hz_a1]) (ln25 _ _ _ _ _) rfl ?_ (hw := wanted_g (e := 13) (b' := false) rfl (by simp [ev_same, ev_ne, size_put, hz_a1]) rfl)
      refine ListK.bin (i := 7) (u := .int .i64 ord.length) (u' := .int .i64 12) (v := .bool true) rfl (by simp [ev_same, size_put, hz_a1]) (by simp [ev_const]) (gtrT (by omega) _) ?_ (hw := wanted_g (e := 13) (b' := false) rfl (by simp [ev_same, ev_ne, size_put, hz_a1]) rfl)
      refine ListK.pick (i := 8) (b := false) (v := .bool true) rfl (by simp [ev_same, ev_ne, size_put, hz_a1]) (by simp [ev_same, size_put, hz_a1]) ?_
      refine ListK.move (i := 9) (v := .bool true) rfl (by simp [ev_same, size_put, hz_a1]) ?_
      refine ListK.passG (i := 10) (e := 18) (b' := true) rfl rfl (by simp [ev_same, size_put, hz_a1]) rfl ?_
      refine ListK.passG (i := 11) (e := 18) (b' := true) rfl rfl (by simp [ev_same, ev_ne, size_put, hz_a1]) rfl ?_
      refine ListK.passG (i := 12) (e := 18) (b' := true) rfl rfl (by simp [ev_same, ev_ne, size_put, hz_a1]) rfl ?_
      refine ListK.pick (i := 13) (b := true) (v := .bool true) rfl (by simp [ev_same, ev_ne, size_put, hz_a1]) (by simp [ev_const]) ?_
      refine ListK.done (hK _ _ ?_)
      clear hK K
      refine wpIn_cond (t := true) (by simp [ev_same, size_put, hz_a1]) ?_
      refine hwk _ ?_ _ (by simp only [size_put, hz_a1]) (by simp only [defers_put, hd_a1])
      intro a' W' e1 e2 e3
      exact hret a' W' e1 e2 e3
    · by_cases g2 : 12 < dys.length
      · skip
        refine wpIn_seq (wpIn_seq (region_l 14 (wideF_plain _) (by kernel_rfl) (by kernel_rfl) ?_))
        intro K hK
        refine ListK.field (i := 0) (u := .pointer (some ⟨b3, 0, none⟩)) (v := .pointer (some ⟨b3, 2, none⟩)) rfl (by simp [u3]) (fa24_2 _) ?_
        refine ListK.load (i := 1) (p := ⟨b3, 2, none⟩) (v := .slice A l.length c) rfl (by simp [ev_same, hz_a1]) (ld22 (q2')) ?_
        refine ListK.len (i := 2) (u := .slice A l.length c) (v := .int .i64 l.length) rfl (by simp [ev_same, size_put, hz_a1]) (ln22 _ _ _ _ _) rfl ?_
        refine ListK.bin (i := 3) (u := .int .i64 l.length) (u' := .int .i64 12) (v := .bool false) rfl (by simp [ev_same, size_put, hz_a1]) (by simp [ev_const]) (gtrF (by omega) _) ?_
        refine ListK.move (i := 4) (v := .bool false) rfl (by simp [ev_same, size_put, hz_a1]) ?_
        refine ListK.move (i := 5) (v := .slice A1 ord.length c1) rfl (by simp [ev_ne, u1]) ?_ (hw := wanted_g (e := 13) (b' := false) rfl (by simp [ev_same, size_put, hz_a1]) rfl)
        refine ListK.lenW (i := 6) (u := .slice A1 ord.length c1) (v := .int .i64 ord.length) rfl (by simp [ev_same, size_put, hz_a1]) (ln25 _ _ _ _ _) rfl ?_ (hw := wanted_g (e := 13) (b' := false) rfl (by simp [ev_same, ev_ne, size_put, hz_a1]) rfl)
        refine ListK.bin (i := 7) (u := .int .i64 ord.length) (u' := .int .i64 12) (v := .bool false) rfl (by simp [ev_same, size_put, hz_a1]) (by simp [ev_const]) (gtrF (by omega) _) ?_ (hw := wanted_g (e := 13) (b' := false) rfl (by simp [ev_same, ev_ne, size_put, hz_a1]) rfl)
        refine ListK.pick (i := 8) (b := false) (v := .bool false) rfl (by simp [ev_same, ev_ne, size_put, hz_a1]) (by simp [ev_same, size_put, hz_a1]) ?_
        refine ListK.move (i := 9) (v := .bool false) rfl (by simp [ev_same, size_put, hz_a1]) ?_
        refine ListK.move (i := 10) (v := .slice A2 dys.length c2) rfl (by simp [ev_ne, u2]) ?_ (hw := wanted_g (e := 18) (b' := false) rfl (by simp [ev_same, size_put, hz_a1]) rfl)
        refine ListK.lenW (i := 11) (u := .slice A2 dys.length c2) (v := .int .i64 dys.length) rfl (by simp [ev_same, size_put, hz_a1]) (ln25 _ _ _ _ _) rfl ?_ (hw := wanted_g (e := 18) (b' := false) rfl (by simp [ev_same, ev_ne, size_put, hz_a1]) rfl)
        refine ListK.bin (i := 12) (u := .int .i64 dys.length) (u' := .int .i64 12) (v := .bool true) rfl (by simp [ev_same, size_put, hz_a1]) (by simp [ev_const]) (gtrT (by omega) _) ?_ (hw := wanted_g (e := 18) (b' := false) rfl (by simp [ev_same, ev_ne, size_put, hz_a1]) rfl)
        refine ListK.pick (i := 13) (b := false) (v := .bool true) rfl (by simp [ev_same, ev_ne, size_put, hz_a1]) (by simp [ev_same, size_put, hz_a1]) ?_
        refine ListK.done (hK _ _ ?_)
        clear hK K
        refine wpIn_cond (t := true) (by simp [ev_same, size_put, hz_a1]) ?_
        refine hwk _ ?_ _ (by simp only [size_put, hz_a1]) (by simp only [defers_put, hd_a1])
        intro a' W' e1 e2 e3
        exact hret a' W' e1 e2 e3
      · skip
        refine wpIn_seq (wpIn_seq (region_l 14 (wideF_plain _) (by kernel_rfl) (by kernel_rfl) ?_))
        intro K hK
        refine ListK.field (i := 0) (u := .pointer (some ⟨b3, 0, none⟩)) (v := .pointer (some ⟨b3, 2, none⟩)) rfl (by simp [u3]) (fa24_2 _) ?_
        refine ListK.load (i := 1) (p := ⟨b3, 2, none⟩) (v := .slice A l.length c) rfl (by simp [ev_same, hz_a1]) (ld22 (q2')) ?_
        refine ListK.len (i := 2) (u := .slice A l.length c) (v := .int .i64 l.length) rfl (by simp [ev_same, size_put, hz_a1]) (ln22 _ _ _ _ _) rfl ?_
        refine ListK.bin (i := 3) (u := .int .i64 l.length) (u' := .int .i64 12) (v := .bool false) rfl (by simp [ev_same, size_put, hz_a1]) (by simp [ev_const]) (gtrF (by omega) _) ?_
        refine ListK.move (i := 4) (v := .bool false) rfl (by simp [ev_same, size_put, hz_a1]) ?_
        refine ListK.move (i := 5) (v := .slice A1 ord.length c1) rfl (by simp [ev_ne, u1]) ?_ (hw := wanted_g (e := 13) (b' := false) rfl (by simp [ev_same, size_put, hz_a1]) rfl)
        refine ListK.lenW (i := 6) (u := .slice A1 ord.length c1) (v := .int .i64 ord.length) rfl (by simp [ev_same, size_put, hz_a1]) (ln25 _ _ _ _ _) rfl ?_ (hw := wanted_g (e := 13) (b' := false) rfl (by simp [ev_same, ev_ne, size_put, hz_a1]) rfl)
        refine ListK.bin (i := 7) (u := .int .i64 ord.length) (u' := .int .i64 12) (v := .bool false) rfl (by simp [ev_same, size_put, hz_a1]) (by simp [ev_const]) (gtrF (by omega) _) ?_ (hw := wanted_g (e := 13) (b' := false) rfl (by simp [ev_same, ev_ne, size_put, hz_a1]) rfl)
        refine ListK.pick (i := 8) (b := false) (v := .bool false) rfl (by simp [ev_same, ev_ne, size_put, hz_a1]) (by simp [ev_same, size_put, hz_a1]) ?_
        refine ListK.move (i := 9) (v := .bool false) rfl (by simp [ev_same, size_put, hz_a1]) ?_
        refine ListK.move (i := 10) (v := .slice A2 dys.length c2) rfl (by simp [ev_ne, u2]) ?_ (hw := wanted_g (e := 18) (b' := false) rfl (by simp [ev_same, size_put, hz_a1]) rfl)
        refine ListK.lenW (i := 11) (u := .slice A2 dys.length c2) (v := .int .i64 dys.length) rfl (by simp [ev_same, size_put, hz_a1]) (ln25 _ _ _ _ _) rfl ?_ (hw := wanted_g (e := 18) (b' := false) rfl (by simp [ev_same, ev_ne, size_put, hz_a1]) rfl)
        refine ListK.bin (i := 12) (u := .int .i64 dys.length) (u' := .int .i64 12) (v := .bool false) rfl (by simp [ev_same, size_put, hz_a1]) (by simp [ev_const]) (gtrF (by omega) _) ?_ (hw := wanted_g (e := 18) (b' := false) rfl (by simp [ev_same, ev_ne, size_put, hz_a1]) rfl)
        refine ListK.pick (i := 13) (b := false) (v := .bool false) rfl (by simp [ev_same, ev_ne, size_put, hz_a1]) (by simp [ev_same, size_put, hz_a1]) ?_
        refine ListK.done (hK _ _ ?_)
        clear hK K
        refine wpIn_cond (t := false) (by simp [ev_same, size_put, hz_a1]) (wpIn_skip ?_)
        show (Code.seq _ _).wpIn _ _ _ _ _ _
        generalize hA : Act.put _ _ _ = a2
        have hz_a2 : a2.tmps.size = 53 := by rw [← hA]; simp only [size_put, hz_a1]
        have v1 : a2.eval (.tmp 1) = .slice A1 ord.length c1 := by rw [← hA]; exact (by simp [ev_ne, u1])
        have v2 : a2.eval (.tmp 2) = .slice A2 dys.length c2 := by rw [← hA]; exact (by simp [ev_ne, u2])
        have v3 : a2.eval (.tmp 3) = .pointer (some ⟨b3, 0, none⟩) := by rw [← hA]; exact (by simp [ev_ne, u3])
        have hd_a2 : a2.defers = [] := by rw [← hA]; simp only [defers_put, hd_a1]
        clear hA
        clear hwk
        have k1 := wb
        refine wpIn_seq (region_l 4 (wideF_plain _) (by kernel_rfl) (by kernel_rfl) ?_)
        intro K hK
        refine ListK.load (i := 0) (p := ⟨b3, 0, none⟩) (v := .agg #[.int .i64 o, .int .i64 t, .slice A l.length c]) rfl (by simp [v3]) (ld24 ⟨wb.cell 0, wb.cell 1, wb.cell 2⟩) ?_
        refine ListK.call (i := 1) (vs := #[.agg #[.int .i64 o, .int .i64 t, .slice A l.length c]]) rfl (enters_of Try.func18 (by kernel_rfl) rfl) (by simp [ev_same, hz_a2]) (((batch_any o t A l c W1 (by omega) hs)).mono ?_)
        rintro _ W2 ⟨A3, c3, rfl, hs_b, hb_b⟩
        have hL_b := hB1.trans (hb_b.mono (by have := hB1.size; omega))
        replace hs := (hs.below hb_b (Nat.le_refl _)).more hb_b.size
        replace h1 := (h1.below hb_b (Nat.le_refl _)).more hb_b.size
        replace h2 := (h2.below hb_b (Nat.le_refl _)).more hb_b.size
        replace wb := wb.below hb_b wb.lt
        replace hB1 := hL_b
        replace hlt : b3 < W2.heap.size := wb.lt
        refine ⟨_, rfl, ?_⟩
        refine ListK.call (i := 2) (vs := #[.agg #[.int .i64 o, .int .i64 t, .slice A3 l.length c3]]) rfl (enters_of Try.func17 (by kernel_rfl) rfl) (by simp [ev_same, size_put, hz_a2]) (((checkBatch_any o t A3 l c3 W2 (by omega) hs_b)).mono ?_)
        rintro _ W3 ⟨rfl, hb_c⟩
        have hL_c := hB1.trans (hb_c.mono (by have := hB1.size; omega))
        replace hs := (hs.below hb_c (Nat.le_refl _)).more hb_c.size
        replace h1 := (h1.below hb_c (Nat.le_refl _)).more hb_c.size
        replace h2 := (h2.below hb_c (Nat.le_refl _)).more hb_c.size
        replace wb := wb.below hb_c wb.lt
        replace hB1 := hL_c
        replace hlt : b3 < W3.heap.size := wb.lt
        refine ⟨_, rfl, ?_⟩
        refine ListK.assign (i := 3) (v := .int .i64 (fault o t l)) rfl (by simp [ev_same, size_put, hz_a2]) ?_
        refine ListK.done (hK _ _ ?_)
        clear hK K
        generalize hA : Act.put _ _ _ = a3
        have hz_a3 : a3.tmps.size = 53 := by rw [← hA]; simp only [size_put, hz_a2]
        have x1 : a3.eval (.tmp 1) = .slice A1 ord.length c1 := by rw [← hA]; exact (by simp [ev_ne, v1])
        have x2 : a3.eval (.tmp 2) = .slice A2 dys.length c2 := by rw [← hA]; exact (by simp [ev_ne, v2])
        have x3 : a3.eval (.tmp 3) = .pointer (some ⟨b3, 0, none⟩) := by rw [← hA]; exact (by simp [ev_ne, v3])
        have x7 : a3.eval (.tmp 7) = .int .i64 (fault o t l) := by rw [← hA]; exact (by simp [ev_same, size_put, hz_a2])
        have hd_a3 : a3.defers = [] := by rw [← hA]; simp only [defers_put, hd_a2]
        clear hA
        refine wpIn_seq (region_l 8 (wideF_plain _) (by kernel_rfl) (by kernel_rfl) ?_)
        intro K hK
        refine ListK.load (i := 0) (p := ⟨b3, 0, none⟩) (v := .agg #[.int .i64 o, .int .i64 t, .slice A l.length c]) rfl (by simp [x3]) (ld24 ⟨wb.cell 0, wb.cell 1, wb.cell 2⟩) ?_
        refine ListK.call (i := 1) (vs := #[.agg #[.int .i64 o, .int .i64 t, .slice A l.length c]]) rfl (enters_of Try.func18 (by kernel_rfl) rfl) (by simp [ev_same, hz_a3]) (((batch_any o t A l c W3 (by omega) hs)).mono ?_)
        rintro _ W4 ⟨A4, c4, rfl, hs_d, hb_d⟩
        have hL_d := hB1.trans (hb_d.mono (by have := hB1.size; omega))
        replace hs := (hs.below hb_d (Nat.le_refl _)).more hb_d.size
        replace h1 := (h1.below hb_d (Nat.le_refl _)).more hb_d.size
        replace h2 := (h2.below hb_d (Nat.le_refl _)).more hb_d.size
        replace wb := wb.below hb_d wb.lt
        replace hB1 := hL_d
        replace hlt : b3 < W4.heap.size := wb.lt
        refine ⟨_, rfl, ?_⟩
        refine ListK.move (i := 2) (v := .slice A1 ord.length c1) rfl (by simp [ev_ne, x1]) ?_
        refine ListK.call (i := 3) (vs := #[.slice A1 ord.length c1]) rfl (enters_of Try.func20 (by kernel_rfl) rfl) (by simp [ev_same, size_put, hz_a3]) (((copy_any A1 ord c1 W4 (by omega) h1)).mono ?_)
        rintro _ W5 ⟨v5, rfl, ⟨A5, c5, rfl, _, i5⟩, hb_e⟩
        replace hs_d := (hs_d.below hb_e (Nat.le_refl _)).more hb_e.size
        have hL_e := hB1.trans (hb_e.mono (by have := hB1.size; omega))
        replace hs := (hs.below hb_e (Nat.le_refl _)).more hb_e.size
        replace h1 := (h1.below hb_e (Nat.le_refl _)).more hb_e.size
        replace h2 := (h2.below hb_e (Nat.le_refl _)).more hb_e.size
        replace wb := wb.below hb_e wb.lt
        replace hB1 := hL_e
        replace hlt : b3 < W5.heap.size := wb.lt
        refine ⟨_, rfl, ?_⟩
        refine ListK.move (i := 4) (v := .slice A2 dys.length c2) rfl (by simp [ev_ne, x2]) ?_
        refine ListK.call (i := 5) (vs := #[.slice A2 dys.length c2]) rfl (enters_of Try.func20 (by kernel_rfl) rfl) (by simp [ev_same, size_put, hz_a3]) (((copy_any A2 dys c2 W5 (by omega) h2)).mono ?_)
        rintro _ W6 ⟨v6, rfl, ⟨A6, c6, rfl, _, i6⟩, hb_f⟩
        replace hs_d := (hs_d.below hb_f (Nat.le_refl _)).more hb_f.size
        replace i5 := (i5.below hb_f (Nat.le_refl _)).more hb_f.size
        have hL_f := hB1.trans (hb_f.mono (by have := hB1.size; omega))
        replace hs := (hs.below hb_f (Nat.le_refl _)).more hb_f.size
        replace h1 := (h1.below hb_f (Nat.le_refl _)).more hb_f.size
        replace h2 := (h2.below hb_f (Nat.le_refl _)).more hb_f.size
        replace wb := wb.below hb_f wb.lt
        replace hB1 := hL_f
        replace hlt : b3 < W6.heap.size := wb.lt
        refine ⟨_, rfl, ?_⟩
        refine ListK.call (i := 6) (vs := #[.agg #[.int .i64 o, .int .i64 t, .slice A4 l.length c4], .slice A5 ord.length c5, .slice A6 dys.length c6]) rfl (enters_of Try.func19 (by kernel_rfl) rfl) (by simp [ev_same, ev_ne, size_put, hz_a3]) (((prove_any o t A4 A5 A6 l c4 c5 c6 ord dys W6 (by omega) hs_d i5 i6)).mono ?_)
        rintro _ W7 ⟨rfl, hb_g⟩
        have hL_g := hB1.trans (hb_g.mono (by have := hB1.size; omega))
        replace hs := (hs.below hb_g (Nat.le_refl _)).more hb_g.size
        replace h1 := (h1.below hb_g (Nat.le_refl _)).more hb_g.size
        replace h2 := (h2.below hb_g (Nat.le_refl _)).more hb_g.size
        replace wb := wb.below hb_g wb.lt
        replace hB1 := hL_g
        replace hlt : b3 < W7.heap.size := wb.lt
        refine ⟨_, rfl, ?_⟩
        refine ListK.assign (i := 7) (v := .bool (proveB o t l ord dys)) rfl (by simp [ev_same, size_put, hz_a3]) ?_
        refine ListK.done (hK _ _ ?_)
        clear hK K
        generalize hA : Act.put _ _ _ = a4
        have hz_a4 : a4.tmps.size = 53 := by rw [← hA]; simp only [size_put, hz_a3]
        have y1 : a4.eval (.tmp 1) = .slice A1 ord.length c1 := by rw [← hA]; exact (by simp [ev_ne, x1])
        have y2 : a4.eval (.tmp 2) = .slice A2 dys.length c2 := by rw [← hA]; exact (by simp [ev_ne, x2])
        have y3 : a4.eval (.tmp 3) = .pointer (some ⟨b3, 0, none⟩) := by rw [← hA]; exact (by simp [ev_ne, x3])
        have y7 : a4.eval (.tmp 7) = .int .i64 (fault o t l) := by rw [← hA]; exact (by simp [ev_ne, x7])
        have y8 : a4.eval (.tmp 8) = .bool (proveB o t l ord dys) := by rw [← hA]; exact (by simp [ev_same, size_put, hz_a3])
        have hd_a4 : a4.defers = [] := by rw [← hA]; simp only [defers_put, hd_a3]
        clear hA
        have hlaw := proves_law o t l ord dys
        by_cases h0 : fault o t l = 0
        · have hv := valid_of_fault h0
          have hm : ∀ s, s ∈ l → 0 ≤ s.many ∧ s.many ≤ 1000 := fun s hs => by
            have := saleOk_facts (hv.ok s hs)
            omega
          have ht0 := hv.t0
          have ht1 := hv.t1
          rw [h0] at hlaw
          simp only [decide_true, Bool.true_and] at hlaw
          refine wpIn_seq (region_l 20 (wideF_plain _) (by kernel_rfl) (by kernel_rfl) ?_)
          intro K hK
          refine ListK.move (i := 0) (v := .int .i64 (fault o t l)) rfl (by simp [y7]) ?_
          refine ListK.load (i := 1) (p := ⟨b3, 0, none⟩) (v := .agg #[.int .i64 o, .int .i64 t, .slice A l.length c]) rfl (by simp [ev_ne, y3]) (ld24 ⟨wb.cell 0, wb.cell 1, wb.cell 2⟩) ?_
          refine ListK.call (i := 2) (vs := #[.agg #[.int .i64 o, .int .i64 t, .slice A l.length c]]) rfl (enters_of Try.func21 (by kernel_rfl) rfl) (by simp [ev_same, size_put, hz_a4]) (((lawFault_any o t A l c W7 (by omega) hs)).mono ?_)
          rintro _ W8 ⟨rfl, hb_h⟩
          have hL_h := hB1.trans (hb_h.mono (by have := hB1.size; omega))
          replace hs := (hs.below hb_h (Nat.le_refl _)).more hb_h.size
          replace h1 := (h1.below hb_h (Nat.le_refl _)).more hb_h.size
          replace h2 := (h2.below hb_h (Nat.le_refl _)).more hb_h.size
          replace wb := wb.below hb_h wb.lt
          replace hB1 := hL_h
          replace hlt : b3 < W8.heap.size := wb.lt
          refine ⟨_, rfl, ?_⟩
          refine ListK.bin (i := 3) (u := .int .i64 (fault o t l)) (u' := .int .i64 (fault o t l)) (v := .bool true) rfl (by simp [ev_same, ev_ne, hz_a4]) (by simp [ev_same, size_put, hz_a4]) (eql27T rfl _) ?_
          refine ListK.move (i := 4) (v := .bool true) rfl (by simp [ev_same, size_put, hz_a4]) ?_
          refine ListK.move (i := 5) (v := .bool (proveB o t l ord dys)) rfl (by simp [ev_ne, y8]) ?_ (hw := wanted_g (e := 38) (b' := true) rfl (by simp [ev_same, size_put, hz_a4]) rfl)
          refine ListK.move (i := 6) (v := .int .i64 (fault o t l)) rfl (by simp [ev_ne, y7]) ?_ (hw := wanted_g (e := 38) (b' := true) rfl (by simp [ev_same, ev_ne, size_put, hz_a4]) rfl)
          refine ListK.bin (i := 7) (u := .int .i64 (fault o t l)) (u' := .int .i64 0) (v := .bool true) rfl (by simp [ev_same, size_put, hz_a4]) (by simp [ev_const]) (eql27T h0 _) ?_ (hw := wanted_g (e := 38) (b' := true) rfl (by simp [ev_same, ev_ne, size_put, hz_a4]) rfl)
          refine ListK.move (i := 8) (v := .bool true) rfl (by simp [ev_same, size_put, hz_a4]) ?_ (hw := wanted_g (e := 38) (b' := true) rfl (by simp [ev_same, ev_ne, size_put, hz_a4]) rfl)
          refine ListK.load (i := 9) (p := ⟨b3, 0, none⟩) (v := .agg #[.int .i64 o, .int .i64 t, .slice A l.length c]) rfl (by simp [ev_ne, y3]) (ld24 ⟨wb.cell 0, wb.cell 1, wb.cell 2⟩) ?_ (hw := wanted_g (e := 42) (b' := true) rfl (by simp [ev_same, size_put, hz_a4]) rfl)
          refine ListK.move (i := 10) (v := .slice A1 ord.length c1) rfl (by simp [ev_ne, y1]) ?_ (hw := wanted_g (e := 42) (b' := true) rfl (by simp [ev_same, ev_ne, size_put, hz_a4]) rfl)
          refine ListK.move (i := 11) (v := .slice A2 dys.length c2) rfl (by simp [ev_ne, y2]) ?_ (hw := wanted_g (e := 42) (b' := true) rfl (by simp [ev_same, ev_ne, size_put, hz_a4]) rfl)
          refine ListK.call (i := 12) (vs := #[.agg #[.int .i64 o, .int .i64 t, .slice A l.length c], .slice A1 ord.length c1, .slice A2 dys.length c2]) rfl (enters_of Try.func22 (by kernel_rfl) rfl) (by simp [ev_same, ev_ne, size_put, hz_a4]) (((truth_any o t A A1 A2 l ord dys c c1 c2 W8 (by omega) hc1 (by omega) (by omega) ht0 ht1 hm hs h1 h2)).mono ?_) (hw := wanted_g (e := 42) (b' := true) rfl (by simp [ev_same, ev_ne, size_put, hz_a4]) rfl)
          rintro _ W9 ⟨rfl, hb_i⟩
          have hL_i := hB1.trans (hb_i.mono (by have := hB1.size; omega))
          replace hs := (hs.below hb_i (Nat.le_refl _)).more hb_i.size
          replace h1 := (h1.below hb_i (Nat.le_refl _)).more hb_i.size
          replace h2 := (h2.below hb_i (Nat.le_refl _)).more hb_i.size
          replace wb := wb.below hb_i wb.lt
          replace hB1 := hL_i
          replace hlt : b3 < W9.heap.size := wb.lt
          refine ⟨_, rfl, ?_⟩
          refine ListK.pickW (i := 13) (b := true) (v := .bool (truthB t l ord dys)) rfl (by simp [ev_same, ev_ne, size_put, hz_a4]) (by simp [ev_same, size_put, hz_a4]) ?_ (hw := wanted_g (e := 38) (b' := true) rfl (by simp [ev_same, ev_ne, size_put, hz_a4]) rfl)
          refine ListK.bin (i := 14) (u := .bool (proveB o t l ord dys)) (u' := .bool (truthB t l ord dys)) (v := .bool true) rfl (by simp [ev_same, ev_ne, size_put, hz_a4]) (by simp [ev_same, size_put, hz_a4]) (eql4T hlaw _) ?_ (hw := wanted_g (e := 38) (b' := true) rfl (by simp [ev_same, ev_ne, size_put, hz_a4]) rfl)
          refine ListK.pick (i := 15) (b := true) (v := .bool true) rfl (by simp [ev_same, ev_ne, size_put, hz_a4]) (by simp [ev_same, size_put, hz_a4]) ?_
          refine ListK.move (i := 16) (v := .bool true) rfl (by simp [ev_same, size_put, hz_a4]) ?_
          refine ListK.call (i := 17) (vs := #[]) rfl (enters_of Try.func16 (by kernel_rfl) rfl) (by simp) (((wakes_any W9)).mono ?_) (hw := wanted_g (e := 50) (b' := true) rfl (by simp [ev_same, size_put, hz_a4]) rfl)
          rintro _ W10 ⟨rfl, hb_j⟩
          have hL_j := hB1.trans (hb_j.mono (by have := hB1.size; omega))
          replace hs := (hs.below hb_j (Nat.le_refl _)).more hb_j.size
          replace h1 := (h1.below hb_j (Nat.le_refl _)).more hb_j.size
          replace h2 := (h2.below hb_j (Nat.le_refl _)).more hb_j.size
          replace wb := wb.below hb_j wb.lt
          replace hB1 := hL_j
          replace hlt : b3 < W10.heap.size := wb.lt
          refine ⟨_, rfl, ?_⟩
          refine ListK.pick (i := 18) (b := true) (v := .bool true) rfl (by simp [ev_same, ev_ne, size_put, hz_a4]) (by simp [ev_same, size_put, hz_a4]) ?_
          refine ListK.assign (i := 19) (v := .bool true) rfl (by simp [ev_same, size_put, hz_a4]) ?_
          refine ListK.done (hK _ _ (wpIn_ret ?_))
          exact hret _ _ (by simp only [defers_put, hd_a4]) (by simp [ev_same, size_put, hz_a4]) hB1
        · rw [show (decide (fault o t l = 0)) = false by simpa using h0, Bool.false_and] at hlaw
          refine wpIn_seq (region_l 20 (wideF_plain _) (by kernel_rfl) (by kernel_rfl) ?_)
          intro K hK
          refine ListK.move (i := 0) (v := .int .i64 (fault o t l)) rfl (by simp [y7]) ?_
          refine ListK.load (i := 1) (p := ⟨b3, 0, none⟩) (v := .agg #[.int .i64 o, .int .i64 t, .slice A l.length c]) rfl (by simp [ev_ne, y3]) (ld24 ⟨wb.cell 0, wb.cell 1, wb.cell 2⟩) ?_
          refine ListK.call (i := 2) (vs := #[.agg #[.int .i64 o, .int .i64 t, .slice A l.length c]]) rfl (enters_of Try.func21 (by kernel_rfl) rfl) (by simp [ev_same, size_put, hz_a4]) (((lawFault_any o t A l c W7 (by omega) hs)).mono ?_)
          rintro _ W8 ⟨rfl, hb_h⟩
          have hL_h := hB1.trans (hb_h.mono (by have := hB1.size; omega))
          replace hs := (hs.below hb_h (Nat.le_refl _)).more hb_h.size
          replace h1 := (h1.below hb_h (Nat.le_refl _)).more hb_h.size
          replace h2 := (h2.below hb_h (Nat.le_refl _)).more hb_h.size
          replace wb := wb.below hb_h wb.lt
          replace hB1 := hL_h
          replace hlt : b3 < W8.heap.size := wb.lt
          refine ⟨_, rfl, ?_⟩
          refine ListK.bin (i := 3) (u := .int .i64 (fault o t l)) (u' := .int .i64 (fault o t l)) (v := .bool true) rfl (by simp [ev_same, ev_ne, hz_a4]) (by simp [ev_same, size_put, hz_a4]) (eql27T rfl _) ?_
          refine ListK.move (i := 4) (v := .bool true) rfl (by simp [ev_same, size_put, hz_a4]) ?_
          refine ListK.move (i := 5) (v := .bool (proveB o t l ord dys)) rfl (by simp [ev_ne, y8]) ?_ (hw := wanted_g (e := 38) (b' := true) rfl (by simp [ev_same, size_put, hz_a4]) rfl)
          refine ListK.move (i := 6) (v := .int .i64 (fault o t l)) rfl (by simp [ev_ne, y7]) ?_ (hw := wanted_g (e := 38) (b' := true) rfl (by simp [ev_same, ev_ne, size_put, hz_a4]) rfl)
          refine ListK.bin (i := 7) (u := .int .i64 (fault o t l)) (u' := .int .i64 0) (v := .bool false) rfl (by simp [ev_same, size_put, hz_a4]) (by simp [ev_const]) (eql27F h0 _) ?_ (hw := wanted_g (e := 38) (b' := true) rfl (by simp [ev_same, ev_ne, size_put, hz_a4]) rfl)
          refine ListK.move (i := 8) (v := .bool false) rfl (by simp [ev_same, size_put, hz_a4]) ?_ (hw := wanted_g (e := 38) (b' := true) rfl (by simp [ev_same, ev_ne, size_put, hz_a4]) rfl)
          refine ListK.passG (i := 9) (e := 42) (b' := false) rfl rfl (by simp [ev_same, size_put, hz_a4]) rfl ?_
          refine ListK.passG (i := 10) (e := 42) (b' := false) rfl rfl (by simp [ev_same, ev_ne, size_put, hz_a4]) rfl ?_
          refine ListK.passG (i := 11) (e := 42) (b' := false) rfl rfl (by simp [ev_same, ev_ne, size_put, hz_a4]) rfl ?_
          refine ListK.passG (i := 12) (e := 42) (b' := false) rfl rfl (by simp [ev_same, ev_ne, size_put, hz_a4]) rfl ?_
          refine ListK.pickW (i := 13) (b := false) (v := .bool false) rfl (by simp [ev_same, ev_ne, size_put, hz_a4]) (by simp [ev_const]) ?_ (hw := wanted_g (e := 38) (b' := true) rfl (by simp [ev_same, ev_ne, size_put, hz_a4]) rfl)
          refine ListK.bin (i := 14) (u := .bool (proveB o t l ord dys)) (u' := .bool false) (v := .bool true) rfl (by simp [ev_same, ev_ne, size_put, hz_a4]) (by simp [ev_same, size_put, hz_a4]) (eql4T hlaw _) ?_ (hw := wanted_g (e := 38) (b' := true) rfl (by simp [ev_same, ev_ne, size_put, hz_a4]) rfl)
          refine ListK.pick (i := 15) (b := true) (v := .bool true) rfl (by simp [ev_same, ev_ne, size_put, hz_a4]) (by simp [ev_same, size_put, hz_a4]) ?_
          refine ListK.move (i := 16) (v := .bool true) rfl (by simp [ev_same, size_put, hz_a4]) ?_
          refine ListK.call (i := 17) (vs := #[]) rfl (enters_of Try.func16 (by kernel_rfl) rfl) (by simp) (((wakes_any W8)).mono ?_) (hw := wanted_g (e := 50) (b' := true) rfl (by simp [ev_same, size_put, hz_a4]) rfl)
          rintro _ W10 ⟨rfl, hb_j⟩
          have hL_j := hB1.trans (hb_j.mono (by have := hB1.size; omega))
          replace hs := (hs.below hb_j (Nat.le_refl _)).more hb_j.size
          replace h1 := (h1.below hb_j (Nat.le_refl _)).more hb_j.size
          replace h2 := (h2.below hb_j (Nat.le_refl _)).more hb_j.size
          replace wb := wb.below hb_j wb.lt
          replace hB1 := hL_j
          replace hlt : b3 < W10.heap.size := wb.lt
          refine ⟨_, rfl, ?_⟩
          refine ListK.pick (i := 18) (b := true) (v := .bool true) rfl (by simp [ev_same, ev_ne, size_put, hz_a4]) (by simp [ev_same, size_put, hz_a4]) ?_
          refine ListK.assign (i := 19) (v := .bool true) rfl (by simp [ev_same, size_put, hz_a4]) ?_
          refine ListK.done (hK _ _ (wpIn_ret ?_))
          exact hret _ _ (by simp only [defers_put, hd_a4]) (by simp [ev_same, size_put, hz_a4]) hB1
end Go.Proofs.Ytfcnombmphophaa

/-! Opn: What the arguments of a law of package recall read as: a batch, a list of numbers. No program is walked. -/
namespace Go.Proofs.Ytfcnombmphophaa
open Go.RowKit Go.Shelf Go.ChangeShapes Go.WideShapes
section
variable {H : Type} {enc : TypeId × Value → H} {W : World} {r : Reach} {b0 : Nat}
theorem c3 : Try.prog.cellsOf 3 = 1 := by kernel_rfl
theorem c22 : Try.prog.cellsOf 22 = 1 := by kernel_rfl
theorem c71 : Try.prog.cellsOf 71 = 2 := by kernel_rfl
theorem c73 : Try.prog.cellsOf 73 = 5 := by kernel_rfl
theorem c24 : Try.prog.cellsOf 24 = 3 := by kernel_rfl
set_option maxRecDepth 100000 in
theorem open_nums {v : Value} {d : DataW H} {ps : List MemPlace} (hval : Value.okWide Try.prog W r b0 25 v) (hd : DataW.Trod enc Try.prog W 0 (fun _ => true) true 25 v d ps) :
    ∃ (A : Option Addr) (l : List Int) (c : Nat), v = .slice A l.length c ∧ l.length ≤ c ∧ IntsAt W W.heap.size A l := by
  obtain ⟨a, n, c, rfl⟩ := okWide_slice Try.underlying25 hval
  obtain ⟨fuel, hf⟩ := hd
  rcases open_ints Try.underlying25 Try.underlying3 c3 hf with ⟨hcs, _⟩ | ⟨a', n', c', zs, hcs, _, hle, _, hall, _, hcell, _⟩
  · simp [Value.cells] at hcs
    obtain ⟨rfl, rfl, rfl⟩ := hcs
    exact ⟨none, [], 0, rfl, Nat.le_refl _, fun k x hx => by simp at hx⟩
  · simp [Value.cells] at hcs
    obtain ⟨rfl, rfl, rfl⟩ := hcs
    simp at hall
    refine ⟨some a', zs.take n, c, by rw [List.length_take]; congr 1; omega, by rw [List.length_take]; omega, ?_⟩
    intro k x hx
    rw [List.getElem?_take] at hx
    split at hx
    · have hk : k < zs.length := (List.getElem?_eq_some_iff.1 hx).1
      obtain ⟨b, off, rfl, hc⟩ := ints_at hcell (by omega)
      have h1 := hc k hk
      have h2 : zs.getD k 0 = x := by simp [List.getD, hx]
      rw [h2] at h1
      exact ⟨b, off, rfl, block_lt_of_cell h1, h1⟩
    · cases hx
theorem get_int {n : Nat} {cs : List Value} {t i : Nat} {y : Option (DataW H × List MemPlace)} (ht : Try.prog.underlying t = some (.int .i64)) (h : DataW.trod enc Try.prog W 0 (fun _ => true) true n t ((cs.drop i).take 1) = y) (hy : ∃ z, y = some z) : ∃ x : Int, cs[i]? = some (.int .i64 x) := by
  obtain ⟨z, rfl⟩ := hy
  obtain ⟨x, hx, _, _⟩ := DataW.trod_int ht h
  refine ⟨x, ?_⟩
  have h2 : ((cs.drop i).take 1)[0]? = some (.int .i64 x) := by rw [hx]; rfl
  rw [List.getElem?_take, if_pos (by omega), List.getElem?_drop] at h2
  simpa using h2
theorem five {cs : List Value} {a b c d e : Value} (hl : cs.length = 5) (h0 : cs[0]? = some a) (h1 : cs[1]? = some b) (h2 : cs[2]? = some c) (h3 : cs[3]? = some d) (h4 : cs[4]? = some e) : cs = [a, b, c, d, e] := by
  match cs, hl with
  | [_, _, _, _, _], _ =>
    simp at h0 h1 h2 h3 h4
    subst h0 h1 h2 h3 h4
    rfl
theorem at_some {α : Type} {xs : List α} {n i : Nat} (h : xs.length = n) (hi : i < n) : ∃ z, xs[i]? = some z := ⟨_, List.getElem?_eq_getElem (by omega)⟩
set_option maxRecDepth 100000 in
/-- Five cells that read as a sale. -/
theorem open_sale {n : Nat} {cs : List Value} {x : DataW H × List MemPlace} (h : DataW.trod enc Try.prog W 0 (fun _ => true) true n 73 cs = some x) : ∃ s : Sale, cs = saleL s := by
  obtain ⟨xs, m, rfl, rfl, hl, hx, hi⟩ := DataW.trod_struct Try.underlying73 h
  rw [c73] at hl
  have h0 := (show DataW.trod enc Try.prog W 0 (fun _ => true) true m 3 ((cs.drop 0).take (Try.prog.cellsOf 3)) = xs[0]? from hi 0 _ rfl)
  have h1 := (show DataW.trod enc Try.prog W 0 (fun _ => true) true m 3 ((cs.drop 1).take (Try.prog.cellsOf 3)) = xs[1]? from hi 1 _ rfl)
  have h2 := (show DataW.trod enc Try.prog W 0 (fun _ => true) true m 3 ((cs.drop 2).take (Try.prog.cellsOf 3)) = xs[2]? from hi 2 _ rfl)
  have h3 := (show DataW.trod enc Try.prog W 0 (fun _ => true) true m 71 ((cs.drop 3).take (Try.prog.cellsOf 71)) = xs[3]? from hi 3 _ rfl)
  rw [c3] at h0 h1 h2
  rw [c71] at h3
  obtain ⟨a, p0⟩ := get_int Try.underlying3 h0 (at_some hx (by decide))
  obtain ⟨b, p1⟩ := get_int Try.underlying3 h1 (at_some hx (by decide))
  obtain ⟨c, p2⟩ := get_int Try.underlying3 h2 (at_some hx (by decide))
  obtain ⟨z, hz⟩ := at_some (i := 3) hx (by decide)
  rw [hz] at h3
  obtain ⟨ys, m', rfl, rfl, hl', hy, hj⟩ := DataW.trod_struct Try.underlying71 h3
  have k0 := (show DataW.trod enc Try.prog W 0 (fun _ => true) true m' 3 ((((cs.drop 3).take 2).drop 0).take (Try.prog.cellsOf 3)) = ys[0]? from hj 0 _ rfl)
  have k1 := (show DataW.trod enc Try.prog W 0 (fun _ => true) true m' 3 ((((cs.drop 3).take 2).drop 1).take (Try.prog.cellsOf 3)) = ys[1]? from hj 1 _ rfl)
  rw [c3] at k0 k1
  obtain ⟨d, k0⟩ := get_int Try.underlying3 k0 (at_some hy (by decide))
  obtain ⟨e, k1⟩ := get_int Try.underlying3 k1 (at_some hy (by decide))
  rw [List.getElem?_take, if_pos (by omega), List.getElem?_drop] at k0 k1
  exact ⟨⟨a, b, c, d, e⟩, five hl p0 p1 p2 k0 k1⟩
set_option maxRecDepth 100000 in
theorem open_batch {v : Value} {d : DataW H} {ps : List MemPlace} (hval : Value.okWide Try.prog W r b0 24 v) (hd : DataW.Trod enc Try.prog W 0 (fun _ => true) true 24 v d ps) :
    ∃ (o t : Int) (A : Option Addr) (l : List Sale) (c : Nat), v = .agg #[.int .i64 o, .int .i64 t, .slice A l.length c] ∧ SalesAt W W.heap.size A l := by
  unfold Value.okWide at hval
  rw [Try.underlying24] at hval
  obtain ⟨cs, rfl, hsz, _⟩ := hval
  rw [c24] at hsz
  obtain ⟨fuel, hf⟩ := hd
  obtain ⟨xs, m, rfl, _, hl, hx, hi⟩ := DataW.trod_struct Try.underlying24 hf
  have h0 := (show DataW.trod enc Try.prog W 0 (fun _ => true) true m 3 (((Value.agg cs).cells.toList.drop 0).take (Try.prog.cellsOf 3)) = xs[0]? from hi 0 _ rfl)
  have h1 := (show DataW.trod enc Try.prog W 0 (fun _ => true) true m 3 (((Value.agg cs).cells.toList.drop 1).take (Try.prog.cellsOf 3)) = xs[1]? from hi 1 _ rfl)
  have h2 := (show DataW.trod enc Try.prog W 0 (fun _ => true) true m 22 (((Value.agg cs).cells.toList.drop 2).take (Try.prog.cellsOf 22)) = xs[2]? from hi 2 _ rfl)
  rw [c3] at h0 h1
  rw [c22] at h2
  obtain ⟨o, h0⟩ := get_int Try.underlying3 h0 (at_some hx (by decide))
  obtain ⟨t, h1⟩ := get_int Try.underlying3 h1 (at_some hx (by decide))
  obtain ⟨z, hz⟩ := at_some (i := 2) hx (by decide)
  rw [hz] at h2
  have hcs : (Value.agg cs).cells.toList = cs.toList := by rfl
  rw [hcs] at h0 h1 h2
  have key : ∃ (A : Option Addr) (l : List Sale) (c : Nat), (cs.toList.drop 2).take 1 = [.slice A l.length c] ∧ SalesAt W W.heap.size A l := by
    rcases DataW.trod_slice Try.underlying22 h2 with ⟨h3, _⟩ | ⟨a, n, c, elems, rest, k, _, h3, _, _, hle, _, hlen, hel, _, _⟩
    · exact ⟨none, [], 0, h3, fun k x hx => by simp at hx⟩
    · rw [c73] at hel
      have hsale : ∀ i, i < n → ∃ s : Sale, W.cells? 0 (a.add (i * 5)) 5 = some (saleL s) := by
        intro i hi
        have h4 := hel i hi
        obtain ⟨y, hy⟩ := at_some (i := i) hlen hi
        rw [hy, Option.bind_eq_some_iff] at h4
        obtain ⟨cs', h5, h6⟩ := h4
        obtain ⟨s, rfl⟩ := open_sale h6
        exact ⟨s, h5⟩
      obtain ⟨f, hf⟩ : ∃ f : Nat → Sale, ∀ i, i < n → W.cells? 0 (a.add (i * 5)) 5 = some (saleL (f i)) :=
        ⟨fun i => if h : i < n then Classical.choose (hsale i h) else ⟨0, 0, 0, 0, 0⟩, fun i hi => by
          dsimp only
          rw [dif_pos hi]
          exact Classical.choose_spec (hsale i hi)⟩
      refine ⟨some a, (List.range n).map f, c, by rw [h3]; simp, ?_⟩
      intro k s hs
      rw [List.getElem?_map, Option.map_eq_some_iff] at hs
      obtain ⟨k', hk', rfl⟩ := hs
      obtain ⟨hkn, rfl⟩ : k < n ∧ k' = k := by
        have := List.getElem?_eq_some_iff.1 hk'
        obtain ⟨h7, h8⟩ := this
        simp at h7 h8
        exact ⟨h7, h8.symm⟩
      have hcl := (World.cells?_some (hf k' hkn)).2.2
      obtain ⟨b, off, spot⟩ := a
      have hspot : spot = none := by
        have hcl0 := (World.cells?_some (hf 0 (by omega))).2.2 0 (by omega)
        have := World.cell?_spot (w := W) (a := (Addr.add ⟨b, off, spot⟩ (0 * 5)).add 0) (v := .int .i64 (f 0).src) (by rw [hcl0]; rfl)
        simpa [Addr.add] using this
      subst hspot
      have hc : ∀ j, j < 5 → W.cell? ⟨b, off + k' * 5 + j, none⟩ = (saleL (f k'))[j]? := by
        intro j hj
        have := hcl j hj
        rwa [add_plain, add_plain] at this
      have g0 := hc 0 (by omega)
      have g1 := hc 1 (by omega)
      have g2 := hc 2 (by omega)
      have g3 := hc 3 (by omega)
      have g4 := hc 4 (by omega)
      exact ⟨b, off, rfl, block_lt_of_cell (v := .int .i64 (f k').src) g0, g0, g1, g2, g3, g4⟩
  obtain ⟨A, l, c, h3, hs⟩ := key
  refine ⟨o, t, A, l, c, ?_, hs⟩
  have h4 : cs.toList[2]? = some (.slice A l.length c) := by
    have : ((cs.toList.drop 2).take 1)[0]? = some (.slice A l.length c) := by rw [h3]; rfl
    rw [List.getElem?_take, if_pos (by omega), List.getElem?_drop] at this
    simpa using this
  have h5 : cs.toList = [.int .i64 o, .int .i64 t, .slice A l.length c] := by
    have hl3 : cs.toList.length = 3 := by simpa using hsz
    generalize cs.toList = ls at *
    match ls, hl3 with
    | [_, _, _], _ =>
      simp at h0 h1 h4
      subst h0 h1 h4
      rfl
  have : cs = #[.int .i64 o, .int .i64 t, .slice A l.length c] := by
    apply Array.ext'
    rw [h5]
  rw [this]
end
/-- A READING IS CARRIED OVER WHATEVER LIES BEHIND. -/
theorem laidOut : laidOutB Try.prog = true := by kernel_rfl
theorem r24 : Try.prog.readableRec 24 = true := by kernel_rfl
theorem r25 : Try.prog.readableRec 25 = true := by kernel_rfl
end Go.Proofs.Ytfcnombmphophaa

/-! Car: An argument reads in a longer world as it did. No program is walked. -/
namespace Go.Proofs.Ytfcnombmphophaa
open Go.RowKit Go.Shelf Go.ChangeShapes Go.WideShapes
theorem carry_trod {H : Type} {enc : TypeId × Value → H} {W W' : World} {t : TypeId} {v : Value} {d : DataW H} {ps : List MemPlace} (hr : Try.prog.readableRec t = true) (hrow : t < Try.prog.types.size) (hb : Below W.heap.size W W')
    (hd : DataW.Trod enc Try.prog W 0 (fun _ => true) true t v d ps) (hlt : ∀ p ∈ ps, p.block < W.heap.size) : DataW.Trod enc Try.prog W' 0 (fun b => decide (b < W.heap.size)) true t v d ps := by
  obtain ⟨n, h⟩ := hd
  exact ⟨n, DataW.trod_stays (kids_book laidOut hr) (book_sized hr) (fun h => by cases h) ⟨hrow, book_self t⟩ h
    (fun p hp => (hb.frame (fun _ => False)).sameAt (hlt p hp) id (fun b e => by
      have := DataW.trod_good (kids_book laidOut hr) (fun h => by cases h) n t _ _ ⟨hrow, book_self t⟩ h p hp
      subst e
      exact this))
    (fun p hp => by simpa using hlt p hp)⟩
theorem s24 : 24 < Try.prog.types.size := of_decide_eq_true (by kernel_rfl)
theorem s25 : 25 < Try.prog.types.size := of_decide_eq_true (by kernel_rfl)
end Go.Proofs.Ytfcnombmphophaa
